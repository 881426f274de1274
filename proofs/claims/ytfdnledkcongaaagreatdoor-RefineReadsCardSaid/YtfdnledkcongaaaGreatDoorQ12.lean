/- Texts of one claim laid together: OrdW, DefT, PlcT, Lvs, TreI, TreJ, TreK, TreL, TreN, TreO, TreQ, TreR, TreS, TreT, RdA, RdB. -/
import Derived.Test.YtfdnledkcongaaaGreatDoorQ11
import Derived.RangeFuncCalls
import Derived.RangeFuncLeaves
import Derived.Shelf.Abstract
import Derived.Shelf.RegionOpen
import Derived.WalkKit
import Derived.TacticsInMore
import Derived.LoopNIn
import Derived.LoopIn
import Derived.Sort.LoopGhostIn
import Derived.Sort.CutIn
import Derived.Deep.LoopGhost
import Derived.Below
import Derived.Deep.QuietTactic
import Derived.BigQuiet
set_option linter.all false
namespace Go.Proofs.YtfdnledkcongaaaGreatDoor
open Go.RowKit Go.Proofs.Tryz
def encI (k:Nat):Array Value:=#[.int .i64 (k:Int)]
def qay (l:List Nat):List Value:=l.map fun(k:Nat)=>.int .i64 (k:Int)
theorem qcD (l m:List Nat):qay (l++m)=qay l++qay m:=by simp[qay]
theorem qeM :(prog.info? 3).map (fun i=>(i.zero,i.size,i.bytes))=some (some (.int .i64 0),1,8):=by kernel_rfl
theorem qiz (l:List Nat):(qay l).length=l.length:=by simp[qay]
set_option maxRecDepth 100000 in
set_option maxHeartbeats 6400000 in
theorem qgZ (m:Nat) (hm1:1≤m) {w:World} {base p Bc:Nat} {v:Value} {u:RuD} {S:StD} (hM:TrM w base p v u S) (hS:GoodS S) (hW0:Whole S) (hb:Bx w Bc [.pointer (some ⟨p,0,none⟩)])
  {B0:Nat} {U:World→Nat→Prop} (hU:qfO B0 U) (hUT: ∀W k,k=Bc∨TrB p v k→¬U W k):
  qfF Fence.wide m prog 131 #[.pointer (some ⟨Bc,0,none⟩)] encI U (fun pre k _=> ∃t,qak S=pre++k::t) (fun xs=>xs=qak S) (fun pre=> ∃t,qak S=pre++t) (qak S).length w:=by
 intro l J Jx W hW hJ hJx hlt hY h0
 have hTc: ∀k,k=Bc∨TrB p v k→k<w.heap.size∧∃o,w.heap[k]? =some o∧o.isCells=true:=by
  rintro k (rfl|hk)
  ·exact⟨hb.lt,cells_of_cell (hb.c 0 rfl)⟩
  ·exact hM.cellsB hS.pos k hk
 have HT:=qh (fun k hk=>(hTc k hk).1);have HC:=qh (fun k hk=>(hTc k hk).2);have HSM:=qh (show Same (fun k=>k=Bc∨TrB p v k) w W from⟨hW.size,fun k hk=>hW.block k (hTc k hk).1⟩);have HM:=qh hM;have HB:=qh hb;have c0:=(hb.same HSM.out (.inl rfl)).c 0 rfl;have NN:=qh (fun W h=>qdm (w:=W) (hM.same (T:=fun k=>k=Bc∨TrB p v k) h (fun k hk=>.inr hk)) hS);have HS:=qh hS;have HP0:=qh (qch.start hW0);have HLN:=qh hW0.qiJ;have HA:=qh (show At W.heap.size U (J []) W W from⟨h0,fun _ h=>h,Nat.le_refl _,hlt _ _ h0⟩);have HWB:=qh hW.size;clear hTc hM hS hW0 hb hW h0;refine callsIn_of_wp func131 rfl trivial ?_ rfl;simp only[ntmps131,List.size_toArray,List.length_cons,List.length_nil,Nat.reduceAdd,Nat.reduceSub,Array.replicate_succ,Array.replicate_zero,List.push_toArray,List.append_toArray,List.nil_append,List.cons_append];gi_wp2
 refine⟨trivial,(callsIn_wide.2 (NN.out W HSM.out)).mono ?_⟩;rintro e w1 ⟨rfl,h1⟩;replace h1:=h1.symm;subst h1;clear c0;have KA:=Kept.new (Below.refl _ W) (.cells #[.int .i64 0] 3);have HO0:=qh (Own.new W #[.int .i64 0] 3 (0,0) 1 1 [.int .i64 0] W.heap.size W.heap.size rfl (Nat.le_refl _) (by decide) rfl rfl (.inr rfl));have HSM1:=qh (HSM.out.kept KA HT.out);have HA1:=qh (HA.out.kept hJ hU hlt KA);have HNU:=qh (show¬U W W.heap.size from fun e=>by have:=hlt _ _ HA.out.inv _ e;omega);gi_wp2_with fail
 clear KA HA HSM;generalize W.alloc _=wa at *;obtain⟨B,hB⟩: ∃B,B=W.heap.size:=⟨_,rfl⟩
 rw[←hB]at hJ hJx HA1 HO0 HNU HWB⊢;clear hB;gi_loopg [3] (S.L.length+1) (fun gh s3 wr=> ∃(ks done R:List Nat) (vp:Value) (W0:World),R.length<gh∧s3=vp∧qch S ks done R∧Own wr B 1 vp ks.length (qay ks.reverse)∧Same (fun k=>k=Bc∨TrB p v k) w wr∧At B U (J (done.filter (qa9 S.L))) W0 wr∧∀k,vp.ownBlock=some k→¬U W0 k)
 case atStart=>exact⟨[0],[],_,_,W,by have:=HLN.out;omega,rfl,HP0.out,HO0.out,HSM1.out,HA1.out,fun k hk=>by cases hk;exact HNU.out⟩
 case round=>
  clear HO0 HSM1 HA1 HNU HP0;obtain⟨ks,done,R,vp,W0,hgh,rfl,hp,hown,hsm,hat,hnu⟩:=hrel;have HP:=qh hp;have HO:=qh hown;have HSM:=qh hsm;have HA:=qh hat;have HNU:=qh hnu;clear hp hown hsm hat hnu;cases ks with
  |nil=>
   obtain⟨A1,c1,hv1,-,-,-,-,-⟩:=HO.out.form;simp only[List.length_nil]at hv1;obtain⟨he,rfl⟩:=HP.out.end_;rw[he]at HA;clear HNU HO;subst hv1;gi_wp2_with fail
   go_end0
   exact⟨⟨_,rfl⟩,.inl ⟨_,rfl,HA.out.inv⟩⟩
  |cons k ks=>
   obtain⟨n,R',hk,rfl,hnext⟩:=HP.out.next;have hown:=HO.out;rcases hown.2 with ⟨-,h0⟩|⟨g,off,cap,rfl,hbg,hgl,hnc,hcm,hx,hc⟩
   ·simp at h0
   have hck:=hx ks.length (.int .i64 (k:Int)) (by simp[qay]);have hO2:=hown.front (k:=ks.length) (by simp);have hle:=HP.out.pile.le;have hall:=HP.out.all
   have hbnd:ks.length≤87381:=by
    have h1:=HLN.out;rw[hall]at h1;have h2:=HS.out.len;simp only[List.length_append,List.length_cons]at h1 hle;omega
   have HO2:Hid (Own wr B 1 (.slice (some ⟨g,off,none⟩) ks.length cap) ks.length (qay ks.reverse)):=by
    have e:(qay (k::ks).reverse).take (ks.length*1)=qay ks.reverse:=by
     simp[qay,List.take_append]
    rw[e]at hO2;exact qh hO2
   clear hown hx hc hO2 HO;have HBN:=qh hbnd;have HNX:=qh hnext;have HKN:=qh hk;have HRL:=qh (show R'.length+1<gk from by simpa using hgh);have HNU2:=qh (show¬U W0 g from HNU.out g rfl);simp only[List.length_cons]at hnc⊢;obtain⟨nm,hnm⟩: ∃nm,nm=ks.length:=⟨_,rfl⟩
   rw[←hnm]at hck hbnd hnc HO2 HBN⊢;have HNM:=qh hnm;have ew:IntKind.i64.wrap (((nm+1:Nat):Int)-1)=(nm:Int):=by rw[IntWalk.i64_in _ (by omega)];omega
   have ew2:IntKind.i64.wrap ((nm:Int)+1-1)=(nm:Int):=by rw[IntWalk.i64_in _ (by omega)];omega
   have ew0:IntKind.i64.wrap (nm:Int)=(nm:Int):=by rw[IntWalk.i64_in _ (by omega)]
   have hnc2:nm≤cap:=by omega
   have hpos:(0:Int)<((nm+1:Nat):Int):=by omega
   have hidx:(nm:Int)<((nm+1:Nat):Int):=by omega
   clear hnm hnext hk hle hall hbnd hgh HNU;gi_upto_region 5 with fail
   have TM:=HM.out.same HSM.out (fun k hk=>.inr hk);obtain⟨gt,ot,ct,hv,-,hgt,-,hcell,-⟩:=TM.form HS.out.pos;have HCL:=qh (fun i y hy=>show wr.cell? ⟨gt,ot+k*13+i,none⟩=some y by rw[Nat.add_assoc];exact hcell k n i y HKN.out hy);have b0:=(HB.out.same HSM.out (.inl rfl)).c 0 rfl;have p1:=TM.box.c 1 rfl;rw[hv]at p1;have hkl:(k:Int)<((S.L.length:Nat):Int):=by have:=(List.getElem?_eq_some_iff.1 HKN.out).1;omega
   have hk0:(0:Int)≤(k:Int):=by omega
   have HVT:=qh hv;clear hv TM hcell;generalize S.L.length=LN at hkl p1;refine wpIn_region_list ?_;refine wpListIn_plain rfl fun K hK=>?_;refine qaK (fun c h=>by cases h) ?_;go_step;refine hK _ _ ?_;clear hK K;refine wpListIn_plain rfl fun K hK=>?_;refine qaK (fun c h=>by cases h) ?_;go_step;refine hK _ _ ?_;clear hK K;refine wpListIn_plain rfl fun K hK=>?_;refine qaK (fun c h=>by cases h) ?_;go_step;refine hK _ _ ?_;clear hK K;refine wpListIn_plain rfl fun K hK=>?_;refine qaK (fun c h=>by cases h) ?_;go_step;refine hK _ _ ?_;clear hK K;refine wpListIn_plain rfl fun K hK=>?_;refine qaK (fun c h=>by cases h) ?_;go_step;refine hK _ _ ?_;clear hK K;refine wpListIn_plain rfl fun K hK=>?_;refine qaK (fun c h=>by cases h) ?_;go_step;refine hK _ _ ?_;clear hK K;refine wpListIn_plain rfl fun K hK=>qaK (fun c h=>by cases h) (qau (vs:=ndV n) (g:=gt) (off:=ot+k*13) (n:=13) _ rfl rfl HCL.out rfl underlying91 rfl (by kernel_rfl) (hK _ _ ?_));clear hK K HCL;refine wpListIn_plain rfl fun K hK=>?_;refine qaK (fun c h=>by cases h) ?_;go_step;refine hK _ _ ?_;clear hK K;have KY:=qh (Kept.new (Below.refl _ wr) (.cells #[.bool false,.string ⟨#[]⟩,.int .i64 0,.bool false,.string ⟨#[]⟩,.int .i64 0,.int .i64 0,.int .u8 0,.int .i64 0,.int .i64 0,.int .i64 0,.int .i64 0,.int .i64 0] 91));have BY:=qh (Bx.new wr [.bool false,.string ⟨#[]⟩,.int .i64 0,.bool false,.string ⟨#[]⟩,.int .i64 0,.int .i64 0,.int .u8 0,.int .i64 0,.int .i64 0,.int .i64 0,.int .i64 0,.int .i64 0] 91 wr.heap.size rfl);obtain⟨y,hy⟩: ∃y,y=wr.heap.size:=⟨_,rfl⟩
   have HY:=qh (show wr.heap.size≤y by omega);rw[←hy]at BY⊢;clear hy b0 p1;generalize World.alloc wr _=w4 at *;refine wpListIn_plain rfl fun K hK=>qaK (fun c h=>by cases h) (qaa (vs:=ndV n) (b:=y) (n:=13) _ _ rfl rfl rfl BY.out rfl rfl (by kernel_rfl) rfl (hK _ _ ?_));clear hK K;replace BY:=qh (BY.out.row (ndV n));replace KY:=qh (Kept.row KY.out HY.out (ndV n));generalize World.setRow w4 _ _=w5 at *;gi_upto_region 6 with fail
   refine wpIn_region_list ?_;refine wpListIn_plain rfl fun K hK=>qaK (fun c h=>by cases h) (qag (vs:=ndV n) (b:=y) (n:=13) _ rfl rfl BY.out rfl underlying91 rfl (by kernel_rfl) (hK _ _ ?_));clear hK K;refine wpListIn_plain rfl fun K hK=>?_;refine qaK (fun c h=>by cases h) ?_;go_step;(with_reducible refine(qcV n w5).mono ?_)
   rintro e w6 ⟨rfl,hk6⟩;refine hK _ _ ?_;clear hK K;have K6:=qh (KY.out.trans' hk6);have BY6:=qh (BY.out.kept hk6);have HO6:=qh (HO2.out.kept K6.out);have HSM6:=qh (HSM.out.kept K6.out HT.out);have HA6:=qh (HA.out.kept hJ hU hlt K6.out);have HGY:=qh (show g≠y by have:=HY.out;omega);have HYB:=qh (show B≤y by have:=HY.out;omega);have HGL:=qh (show g<w6.heap.size by have:=K6.out.size;omega);clear hk6 KY BY HY HO2 HSM HA hck ew ew2 ew0 hpos hidx hkl hk0 K6;rcases HNX.out with ⟨hn,hp⟩|⟨kp,kq,kr,ksx,hn,hp⟩
   ·have hpb:qb4 n=false:=by rw[qbS HS.out HKN.out,hn];rfl
    rw[hpb];obtain⟨hfil,tt,htt⟩:=qch.leaf hp.all HKN.out hn;have HFIL:=qh hfil;have HTT:=qh htt;have HPA:=qh hp;obtain⟨fn,tmps,assign,body,hyl,hR⟩:=hY _ k w6 HA6.out.inv ⟨tt,htt⟩ (by rw[htt];simp);dsimp only[encI]at hyl;have HR:=qh hR;clear hR hfil hp hn htt hpb HNX;gi_wp2_with fail
    refine HR.out.mono ?_;rintro e W3 (⟨rfl,hJ4,hk4⟩|⟨rfl,hJx4⟩)
    ·rw [←HFIL.out]at hJ4
     have HJ4:=qh hJ4;have hcB:=HO6.out.cellsB (by omega);have hnu6: ¬U w6 g:=fun e=>HNU2.out (HA6.out.used g e)
     have hbg6:W3.heap[g]? =w6.heap[g]? :=by
      obtain⟨o,ho,hco⟩:=hcB;rw[hk4.same g o ho hco hnu6,ho]
     have HO7:=qh (HO6.out.keep hk4.size (fun g' hg' o=>by cases hg';exact⟨World.cell?_of_block (a:=⟨g,o,none⟩) hbg6,World.frozen?_of_block (a:=⟨g,o,none⟩) hbg6⟩));have HSM7:=qh (HSM6.out.qpB hk4 HC.out (fun k hk=>hUT w6 k hk));have HNU7:=qh (show¬U W3 g from fun e=>(hk4.used g e).elim hnu6 (fun h=>by have:=HGL.out;omega));clear hk4 hJ4 hcB hnu6 hbg6;gi_wp2_with fail
     gi_roundg (R'.length+1)
     case measure=>have:=HRL.out;omega
     case rel=>exact⟨ks,done++[k],R',_,W3,Nat.lt_succ_self _,rfl,HPA.out,by rw[←HNM.out];exact HO7.out,HSM7.out,⟨HJ4.out,fun _ h=>h,Nat.le_refl _,hlt _ _ HJ4.out⟩,fun i hi=>by cases hi;exact HNU7.out⟩
    ·have HX4:=qh hJx4
     gi_wp2
     refine bodyPost_ret (results_none rfl _ _ _) rfl ?_;exact⟨⟨_,rfl⟩,.inr ⟨_,⟨tt,by rw[HTT.out];simp⟩,HX4.out⟩⟩
   ·have hpb:qb4 n=true:=by rw[qbS HS.out HKN.out,hn];rfl
    rw[hpb];have hfil:=qch.node (done:=done) HKN.out (by rw[hn];rfl);have HFIL:=qh hfil;have HPA:=qh hp
    have HKD:Hid (∀j:Nat,j<4→∃x i:Nat,i<4∧(3-(j:Int))=(i:Int)∧(ndV n)[9+i]? =some (.int .i64 (x:Int))∧[ksx,kr,kq,kp].take (j+1)=[ksx,kr,kq,kp].take j++[x]):=by
     have hkd:n.kid=(kp,kq,kr,ksx):=by unfold NdD.kid;rw[hn];rfl
     refine qh fun j hj=>?_;unfold ndV;rw[hkd];rcases(show j=0∨j=1∨j=2∨j=3 by omega)with rfl|rfl|rfl|rfl
     ·exact⟨ksx,3,by omega,rfl,rfl,rfl⟩
     ·exact⟨kr,2,by omega,rfl,rfl,rfl⟩
     ·exact⟨kq,1,by omega,rfl,rfl,rfl⟩
     ·exact⟨kp,0,by omega,rfl,rfl,rfl⟩
    have HYG:=qh (show∀i,(Value.slice (some ⟨g,off,none⟩) nm cap).ownBlock=some i→¬U W0 i∧i≠y from fun i hi=>by
     cases hi;exact⟨HNU2.out,HGY.out⟩)
    clear hp hn hpb hfil HNX HP;gi_wp2_with fail
    gi_loopg [3,6] 4 (fun gj s3 s6 wx=> ∃(j:Nat) (vq:Value),j+gj=4∧s3=vq∧s6=.int .i64 (3-(j:Int))∧Bx wx y (ndV n)∧Own wx B 1 vq (nm+j) (qay (ks.reverse++[ksx,kr,kq,kp].take j))∧Same (fun k=>k=Bc∨TrB p v k) w wx∧At B U (J (done.filter (qa9 S.L))) W0 wx∧∀i,vq.ownBlock=some i→¬U W0 i∧i≠y)
    case atStart=>exact⟨0,_,rfl,rfl,rfl,BY6.out,by rw[List.take_zero,List.append_nil];exact HO6.out,HSM6.out,HA6.out,HYG.out⟩
    case round=>
     clear BY6 HO6 HSM6 HA6 HYG;obtain⟨j,vq,hjg,rfl,rfl,hby,hown,hsm,hat,hyg⟩:=hrel;have HBY:=qh hby;have HO:=qh hown;have HSM:=qh hsm;have HA:=qh hat;have HYG:=qh hyg;clear hby hown hsm hat hyg;cases gk with
     |zero=>
      obtain rfl:j=4:=by omega
      gi_wp2_with fail
      gi_roundg (R'.length+1)
      case measure=>have:=HRL.out;omega
      case rel=>
       refine⟨kp::kq::kr::ksx::ks,done++[k],R',_,W0,Nat.lt_succ_self _,rfl,HPA.out,?_,HSM.out,by rw[HFIL.out];exact HA.out,fun i hi=>(HYG.out i hi).1⟩;have h:=HO.out;have e:ks.reverse++[ksx,kr,kq,kp].take 4=(kp::kq::kr::ksx::ks).reverse:=by simp
       rw[e,HNM.out]at h;exact h
     |succ gj=>
      obtain⟨x,i,hi4,hji,hnx,htk⟩:=HKD.out j (by omega);rw[hji];have hyc:=HBY.out.c _ hnx;have hi0:(0:Int)≤(i:Int):=by omega
      have hi4':(i:Int)<4:=by omega
      have ewi:IntKind.i64.wrap ((i:Int)-1)=(3-((j+1:Nat):Int)):=by rw[IntWalk.i64_in _ (by omega)];omega
      have HTK:=qh htk;have HEW:=qh ewi;clear hnx htk hji ewi;obtain⟨i0,hi1,hi2,hi3,hi5⟩:=info_parts qeM;have hbase:B≤wr.heap.size:=by have h1:=HBY.out.lt;have h2:=HYB.out;omega
      gi_wp2_with (refine qdb _ rfl _ _ 98 rfl B 3 i0 (.int .i64 0) 1 8 underlying98 hi1 hi2 hi3 hi5 rfl (by decide) u3 (nm+j) (qay (ks.reverse++[ksx,kr,kq,kp].take j)) rfl (HO.out.alloc _) (some ⟨wr.heap.size,0,none⟩) 1 1 [.int .i64 (x:Int)] rfl rfl (Row.qbP _ _ _ _ _ _ rfl rfl) (by intro u hu;simp at hu;subst hu;rfl) (by have:=HBN.out;unfold maxLen;omega) (by have:=HBN.out;omega) (by simp;omega) ?_)
      intro v9 w9 hown9 hg9 hv9;have hKA:=Kept.new (Below.refl _ wr) (.cells #[.int .i64 (x:Int)] 3);have hsz:(wr.alloc (.cells #[.int .i64 (x:Int)] 3)).heap.size=wr.heap.size+1:=by simp
      have HBY9:=qh ((HBY.out.kept hKA).qbw hg9 (fun e=>(HYG.out y e).2 rfl));have HSM9:=qh ((HSM.out.kept hKA HT.out).grown hg9 HT.out (fun i hi e=>by have h1:=HT.out i hi;have h2:=HWB.out;have h3:=(HO.out.lt i e).1;omega));have HA9:=qh ((HA.out.kept hJ hU hlt hKA).grown hJ hU hlt hg9 (fun r e=>⟨(HO.out.lt r e).1,(HYG.out r e).1⟩))
      have HYG9:Hid (∀i,v9.ownBlock=some i→¬U W0 i∧i≠y):=by
       refine qh fun i hi=>?_;rcases hv9 with h|h
       ·exact HYG.out i (h ▸ hi)
       ·have h1:=h i hi
        exact⟨fun e=>by have h2:=HA.out.lt0 i e;have h3:=HA.out.size;omega,fun e=>by have h2:=HBY.out.lt;omega⟩
      have hO9:Own w9 B 1 v9 (nm+(j+1)) (qay (ks.reverse++[ksx,kr,kq,kp].take (j+1))):=by
       rw[HTK.out,←List.append_assoc,qcD];exact hown9
      obtain⟨A9,c9,rfl,-,-,-,-,-⟩:=hO9.form;have HO9:=qh hO9;have ewi:=HEW.out;clear hown9 hg9 hv9 hKA hsz hO9 HBY HSM HA HYG HO hyc;gi_wp2_with fail
      gi_roundg gj
      case measure=>omega
      case rel=>exact⟨j+1,_,by omega,rfl,by go_num,HBY9.out,HO9.out,HSM9.out,HA9.out,HYG9.out⟩
section
open Go.RowKit Go.Shelf
def Defs (lo:Nat) (W:World):List Deferred→Prop
 |[]=>True
 |d::ds=> ∃D,d={target:=.collected D,args:=#[]}∧lo≤D∧W.heap[D]? =some (.deferred (some []))∧({target:=.collected D,args:=#[]}:Deferred) ∉ ds∧Defs lo W ds
theorem Defs.keeps {lo:Nat} {W W':World} (hk: ∀(k:Nat) (o:Obj),W.heap[k]? =some o→o.isCells=false→W'.heap[k]? =some o): ∀{ds:List Deferred},Defs lo W ds→Defs lo W' ds
 |[],_=>trivial
 |_::_,⟨D,he,hl,hh,hn,hd⟩=>⟨D,he,hl,hk _ _ hh rfl,hn,hd.keeps hk⟩
theorem Defs.put {lo:Nat} {W:World} {D:Nat} {o:Obj}: ∀{ds:List Deferred},Defs lo W ds→({target:=.collected D,args:=#[]}:Deferred) ∉ ds→Defs lo (W.putObj D o) ds
 |[],_,_=>trivial
 |_::_,⟨D',he,hl,hh,hn,hd⟩,hm=>by
  subst he;have hne:D'≠D:=fun e=>hm (by subst e;simp);exact⟨D',rfl,hl,(World.putObj_heap_other hne).trans hh,hn,hd.put fun h=>hm (List.mem_cons_of_mem _ h)⟩
theorem qbo {F:Fence} {n:Nat} {P:Program} {fn:Func} {tmps:Array Value} {R:Ending→World→Prop} {lo:Nat}: ∀(ds:List Deferred) (W:World),Defs lo W ds→
  (∀W',Below lo W W'→(∀ (k:Nat) (o:Obj),W.heap[k]? =some o→o.isCells=true→W'.heap[k]? =some o)→∃v,(results fn tmps).run P W'=.ok v W'∧R (.returned v) W')→lo≤W.heap.size→
  LeavesInM F n P fn tmps R ds .returning W
 |[],W,_,h,_=>h W (Below.refl _ _) (fun _ _ h _=>h)
 |_::ds,W,⟨D,he,hl,hh,hn,hd⟩,h,hlo=>by
  subst he;have hb:Below lo W (W.putObj D (.deferred none)):=(Below.refl lo W).grown (grownBy_putObj' W D _) hlo (fun k e=>by cases e;exact hl);refine⟨by simp,.inl ⟨D,_,rfl,run_takeDeferred hh,qbo ds _ ?_ (fun W' hb' hc'=>?_) (by simpa using hlo)⟩⟩
  ·exact hd.put hn
  ·refine h W' (hb.trans hb') fun k o hk hc=>hc' k o ?_ hc
   exact(World.putObj_heap_other (fun e=>by subst e;rw[hh]at hk;cases hk;cases hc)).trans hk
end
section
set_option maxRecDepth 100000
attribute [local go_sem] Oper.semAt_some
theorem qga (p:Nat) (w:World):Calls prog 88 #[.pointer (some ⟨p,0,none⟩)] w fun e w'=> ∃B,e=.returned (.func (.func 131) #[] #[.pointer (some ⟨B,0,none⟩)])∧Kept w w'∧w.heap.size≤B∧Bx w' B [.pointer (some ⟨p,0,none⟩)]:=by
 go_enter func88,ntmps88
 go_wp2
 go_ret
 exact⟨w.heap.size,rfl,(Below.refl _ _).alloc (Nat.le_refl _) _,Nat.le_refl _,Bx.new w [.pointer (some ⟨p,0,none⟩)] _ _ rfl⟩
def qgl (b n0:Nat) (W:World) (k:Nat):Prop:=k=b∨(n0≤k∧∃v,W.cell? ⟨b,0,none⟩=some v∧v.ownBlock=some k)
theorem qgl.ok {b n0 B:Nat} (hb:b<B):qfO B (qgl b n0):=by
 refine⟨fun W W' row hlt hg hr k hk=>?_,fun W l o o' hl ho hc k hk=>?_⟩
 ·rcases hk with rfl|⟨h1,v,h2,h3⟩
  ·exact .inl rfl
  ·have e:=World.cell?_of_block (a:=⟨b,0,none⟩) (hg.block b (hlt b (.inl rfl)) (fun e=>hr b e.symm (.inl rfl)))
   exact .inr ⟨h1,v,e ▸ h2,h3⟩
 ·rcases hk with rfl|⟨h1,v,h2,h3⟩
  ·exact .inl rfl
  ·have e:=World.cell?_of_block (w:=W) (w':=W.putObj l o') (a:=⟨b,0,none⟩) (World.putObj_heap_other (by show b≠l;omega))
   exact .inr ⟨h1,v,e ▸ h2,h3⟩
structure qfn (W:World) (b n0:Nat) (l:List Nat) (v:Value):Prop where
 box:Bx W b [v]
 own:Own W n0 1 v l.length (qay l)
 cells: ∀k,v.ownBlock=some k→∃o,W.heap[k]? =some o∧o.isCells=true
theorem qfn.grown {W W':World} {b n0:Nat} {l:List Nat} {v:Value} {row:Option Nat} (h:qfn W b n0 l v) (hg:W.grownBy W' row) (hb:row≠some b) (hv: ∀k,v.ownBlock=some k→row≠some k):qfn W' b n0 l v:=
 ⟨h.box.qbw hg hb,h.own.grown hg (fun k hk e=>hv k hk e.symm),fun k hk=>by
  obtain⟨o,ho,hc⟩:=h.cells k hk;exact⟨o,(hg.block k (h.own.lt k hk).2 (fun e=>hv k hk e.symm)).trans ho,hc⟩⟩
def PlI (w:World) (b n0:Nat) (l:List Nat) (W:World):Prop:=Kept w W∧∃v,qfn W b n0 l v
theorem PlI.own {w:World} {b n0 B:Nat} (hb:b<B) (hw:w.heap.size≤B):OwnFrom B (PlI w b n0):=by
 rintro l W W' row ⟨hk,v,h⟩ hg hr;refine⟨hk.grown hg (hk.size) (fun r e=>Nat.le_trans hw (hr r e).1),v,h.grown hg (fun e=>by have:=(hr b e).1;omega) (fun k hk e=>?_)⟩;obtain⟨o,ho,hc⟩:=h.cells k hk;obtain⟨o',ho',hc'⟩:=(hr k e).2;rw[ho]at ho';cases ho';rw[hc]at hc';cases hc'
theorem PlI.use {w:World} {b n0 B:Nat} (hw:w.heap.size≤B):qdh B (qgl b n0) (PlI w b n0):=by
 rintro l W W' row ⟨hk,v,h⟩ hg hr;exact⟨hk.grown hg (hk.size) (fun r e=>Nat.le_trans hw (hr r e).1),v,h.grown hg (fun e=>(hr b e).2 (.inl rfl)) (fun k hk e=>(hr k e).2 (.inr ⟨(h.own.lt k hk).1,v,h.box.c 0 rfl,hk⟩))⟩
theorem PlI.lt {w:World} {b n0:Nat}: ∀l W,PlI w b n0 l W→∀k,qgl b n0 W k→k<W.heap.size:=by
 rintro l W ⟨-,v,h⟩ k (rfl|⟨h1,v',h2,h3⟩)
 ·exact h.box.lt
 ·rw [h.box.c 0 rfl]at h2;cases h2;exact(h.own.lt k h3).2
theorem qfn.more {w W W1 w9:World} {b n0:Nat} {l:List Nat} {k:Nat} {vl v9:Value} (hb:b<n0) (hb0:w.heap.size≤b) (hkw:Kept w W) (h:qfn W b n0 l vl) (h1:Kept W W1) (hg:W1.grownBy w9 vl.ownBlock)
  (ho:Own w9 n0 1 v9 (l.length+1) (qay (l++[k]))) (hv:v9.ownBlock=vl.ownBlock∨∀i,v9.ownBlock=some i→W1.heap.size≤i):
  KeepsFrom n0 W (w9.setCell ⟨b,0,none⟩ v9)∧qef (qgl b n0) W (w9.setCell ⟨b,0,none⟩ v9)∧PlI w b n0 (l++[k]) (w9.setCell ⟨b,0,none⟩ v9):=by
 have hnb: ∀i,vl.ownBlock=some i→i≠b:=fun i hi=>by have:=(h.own.lt i hi).1;omega
 have hbW:=h.box.lt;have hB9:Bx w9 b [vl]:=(h.box.kept h1).qbw hg (fun e=>hnb b e rfl)
 have hblk: ∀i,i<W.heap.size→i≠b→vl.ownBlock≠some i→(w9.setCell ⟨b,0,none⟩ v9).heap[i]? =W.heap[i]? :=fun i hi h2 h3=>
  ((Below.heap_setCell w9 ⟨b,0,none⟩ v9 i h2).trans (hg.block i (Nat.lt_of_lt_of_le hi h1.size) (fun e=>h3 e.symm))).trans (h1.block i hi)
 have hsz:W.heap.size≤(w9.setCell ⟨b,0,none⟩ v9).heap.size:=by
  have h2:(w9.setCell ⟨b,0,none⟩ v9).heap.size=w9.heap.size:=by simp[World.setCell]
  have h3:=h1.size;have h4:=hg.size;omega
 have hBB:Bx (w9.setCell ⟨b,0,none⟩ v9) b [v9]:=hB9.set 0 v9 (by simp);have hOO:Own (w9.setCell ⟨b,0,none⟩ v9) n0 1 v9 (l.length+1) (qay (l++[k])):=ho.far (fun i hi=>by have:=(ho.lt i hi).1;show i≠b;omega) v9;refine⟨⟨hsz,fun i o hi ho2 hc=>?_⟩,⟨hsz,fun i o hi hc hu=>?_,fun i hi=>?_⟩,?_,v9,hBB,?_,fun i hi=>?_⟩
 ·refine(hblk i (Array.getElem?_eq_some_iff.1 ho2).1 (by omega) (fun e=>?_)).trans ho2
  obtain⟨o',ho',hc'⟩:=h.cells i e;rw[ho2]at ho';cases ho';rw[hc]at hc';cases hc'
 ·exact(hblk i (Array.getElem?_eq_some_iff.1 hi).1 (fun e=>hu (.inl e)) (fun e=>hu (.inr ⟨(h.own.lt i e).1,vl,h.box.c 0 rfl,e⟩))).trans hi
 ·rcases hi with rfl|⟨h2,v',h3,h4⟩
  ·exact .inl (.inl rfl)
  ·rw [hBB.c 0 rfl]at h3
   cases h3;rcases hv with e|e
   ·exact .inl (.inr ⟨h2,vl,h.box.c 0 rfl,e ▸ h4⟩)
   ·exact .inr (Nat.le_trans h1.size (e i h4))
 ·exact((hkw.trans' h1).grown hg ((hkw.trans' h1).size) (fun i hi=>by have:=(h.own.lt i hi).1;omega)).setCell hb0 v9
 ·simpa using hOO
 ·obtain⟨A,c,rfl,h2,h3,h4,h5,h6⟩:=ho.form
  rcases hOO.2 with ⟨-,h0⟩|⟨g,off,cap,e,-,-,h7,-,-,h8⟩
  ·omega
  ·rw [e]at hi
   cases hi;have h9:=(h8 0 (by omega)).1;cases h10:(w9.setCell ⟨b,0,none⟩ (.slice A (l.length+1) c)).cell? ⟨g,off+0,none⟩with
   |none=>rw[h10]at h9;cases h9
   |some x=>exact cells_of_cell h10
set_option maxHeartbeats 6400000 in
theorem places_any {w:World} {base p:Nat} {v:Value} {u:RuD} {S:StD} (hM:TrM w base p v u S) (hS:GoodS S) (hW:Whole S):
  Calls prog 53 #[.pointer (some ⟨p,0,none⟩)] w fun en w'=> ∃x,en=.returned x∧Own w' w.heap.size 1 x (qak S).length (qay (qak S))∧Kept w w':=by
 have HM:=qh hM;have HS:=qh hS;have HW:=qh hW;have HPL:=qh hM.box.lt;clear hM hS hW;refine callsIn_wide.1 (callsIn_of_wp_marks (n:=5) func53 rfl trivial ?_ rfl);simp only[ntmps53,List.size_toArray,List.length_cons,List.length_nil,Nat.reduceAdd,Nat.reduceSub,Array.replicate_succ,Array.replicate_zero,List.push_toArray,List.append_toArray,List.nil_append,List.cons_append];refine wpIn_wide.2 ?_;go_upto_region 2 with fail
 have BL:=qh (Bx.new w [.slice none 0 0] 98 w.heap.size rfl);have K1:=qh (Kept.new (Below.refl _ w) (.cells #[.slice none 0 0] 98));obtain⟨b,hb⟩: ∃b,b=w.heap.size:=⟨_,rfl⟩
 have HB:=qh hb;rw[←hb]at BL⊢;clear hb;generalize w.alloc _=w1 at *;go_wp2_with fail
 refine(qga p _).mono ?_;rintro e w2 ⟨Bc,rfl,hk2,hBc,hbx⟩;have hf1: ∀W,(binOp .eql 166 (.func (.func 131) #[] #[.pointer (some ⟨Bc,0,none⟩)]) .nilFunc).run prog W=.ok (.bool false) W:=fun W=>by kernel_rfl
 go_wp2_with fail
 have HK2:=qh (K1.out.trans' hk2);have HM2:=qh (HM.out.kept HK2.out);have hLT:=BL.out.lt;have hB2:=BL.out.kept hk2;have hsz2:=hk2.size;have hbc:=hbx.lt;have hv2: ∀k,v.ownBlock=some k→k<w.heap.size:=fun k hk=>(HM.out.own.lt k hk).2
 refine(wpIn_wide (n:=5)).1 (qbr (α:=Nat) rfl (by decide) (gf:=131) (lb:=#[.pointer (some ⟨Bc,0,none⟩)]) rfl trivial (enters_of func131 (by kernel_rfl) rfl)
  (qgZ 4 (by omega) HM2.out HS.out HW.out hbx (B0:=w2.heap.size) (U:=qgl b w2.heap.size) (qgl.ok (by omega)) (fun W k hk hu=>?ut))
  (qgl.ok (by omega)) (Below.refl _ _) (fun _=>rfl)
  (PlI w b w2.heap.size) (fun _ _ _=>False) (PlI.own (by omega) HK2.out.size) (fun _ s A B row h _ _=>h.elim) (PlI.use HK2.out.size) (fun _ s A B row h _ _=>h.elim) PlI.lt
  ⟨HK2.out,_,hB2,Own.nil _ _ _,fun k hk=>by cases hk⟩
  (fun k a' _=>a'={tmps:=#[.pointer (some ⟨p,0,none⟩),undef,.slice none 0 0,.pointer (some ⟨b,0,none⟩),.int .i64 (k:Int),.pointer (some ⟨p,0,none⟩),.func (.func 131) #[] #[.pointer (some ⟨Bc,0,none⟩)],.int .i64 (k:Int),undef,undef,undef,undef,undef],defers:=[]}) (fun x a' s A B row h _ _=>h) ?assign ?body ?done (fun D c pre W _ _ h _=>h.elim))
 case ut=>
  have hb2:=HB.out;rcases hu with rfl|⟨h1,-⟩
  ·rcases hk with rfl|rfl|hk
   ·omega
   ·have:=HPL.out;omega
   ·have:=hv2 _ hk;omega
  ·rcases hk with rfl|rfl|hk
   ·omega
   ·have:=HPL.out;omega
   ·have:=hv2 _ hk;omega
 case assign=>
  rintro l pre k W K2 hI hR hK2;have HI:=qh hI;have HK:=qh hK2;clear hI hR hK2;simp only[encI];gi_wp2
  exact HK.out _ _ (KeepsFrom.refl _ _) ⟨Nat.le_refl _,fun _ _ h _ _=>h,fun _ h=>.inl h⟩ HI.out rfl
 case body=>
  rintro l pre k a' W hl ⟨rc,hrc⟩ ⟨hkw,vl,hli⟩ rfl hlen
  have hlen2:pre.length≤87381:=by
   have h1:=qc HW.out;have h2:=HS.out.len;omega
  obtain⟨i0,hi1,hi2,hi3,hi5⟩:=info_parts qeM;have hc0:=hli.box.c 0 rfl;have HKW:=qh hkw;have HLI:=qh hli;have HBL:=qh (show b<w2.heap.size by omega);have HBW:=qh (show w2.heap.size≤W.heap.size by have:=(Array.getElem?_eq_some_iff.1 hrc).1;omega);clear hkw hli hrc hl hlen hLT hB2 hsz2 hbc hbx hBc hk2;gi_wp2_with (refine qdb _ rfl _ _ 98 rfl w2.heap.size 3 i0 (.int .i64 0) 1 8 underlying98 hi1 hi2 hi3 hi5 rfl (by decide) vl pre.length (qay pre) rfl (HLI.out.own.alloc _) (some ⟨W.heap.size,0,none⟩) 1 1 [.int .i64 (k:Int)] rfl rfl (Row.qbP _ _ _ _ _ _ rfl rfl) (by intro u hu;simp at hu;subst hu;rfl) (by unfold maxLen;omega) (by omega) (by have:=HBW.out;simp;omega) ?_)
  intro v9 w9 hown9 hg9 hv9;have hKA:=Kept.new (Below.refl _ W) (.cells #[.int .i64 (k:Int)] 3);have hB9:Bx w9 b [vl]:=(HLI.out.box.kept hKA).qbw hg9 (fun e=>by have:=(HLI.out.own.lt b e).1;have:=HBL.out;omega);have hM:=qfn.more (w:=w) (k:=k) HBL.out (by have:=HB.out;omega) HKW.out HLI.out hKA hg9 (by rw[qcD];exact hown9) (hv9.imp id (fun h i hi=>by have:=h i hi;simpa using this));have HM9:=qh hM;obtain⟨A9,c9,rfl,-,-,-,-,-⟩:=hown9.form;have hc9:=hB9.c 0 rfl;have hf9:=hB9.f 0;clear hM hown9 hg9 hv9 hKA hB9 hc0;gi_wp2_with fail
  exact HM9.out
 case done=>
  rintro D xs W hD rfl ⟨hkw,vl,hli⟩ hDef;dsimp only;have hc0:=hli.box.c 0 rfl;have HLI:=qh hli;have HKW:=qh hkw;have HD:=qh hDef;have HDL:=qh hD;have HBW:=qh hli.box.lt;clear hli hkw hDef hD hB2 hLT hsz2 hbc hbx hBc hk2;go_wp2_with fail
  refine qbo (lo:=w2.heap.size) _ _ ⟨D,rfl,HDL.out,HD.out,by simp,trivial⟩ (fun W' hb hcc=>?_) (by have:=(Array.getElem?_eq_some_iff.1 HD.out).1;have:=HDL.out;omega)
  have hO:Own W' w.heap.size 1 vl (qak S).length (qay (qak S)):=by
   refine(HLI.out.own.less HK2.out.size).keep hb.size fun i hi o=>?_;obtain⟨ob,h1,h2⟩:=HLI.out.cells i hi;have h3:=(hcc i ob h1 h2).trans h1.symm;exact⟨World.cell?_of_block (a:=⟨i,o,none⟩) h3,World.frozen?_of_block (a:=⟨i,o,none⟩) h3⟩
  exact⟨vl,by simp[results,f53,go_sem],vl,rfl,hO,HKW.out.trans (hb.mono HK2.out.size)⟩
end
section
set_option maxRecDepth 100000
theorem qkO (p:Nat) (w:World):Calls prog 21 #[.pointer (some ⟨p,0,none⟩)] w fun e w'=> ∃B,e=.returned (.func (.func 52) #[] #[.pointer (some ⟨B,0,none⟩)])∧Kept w w'∧w.heap.size≤B∧Bx w' B [.pointer (some ⟨p,0,none⟩)]:=by
 go_enter func21,ntmps21
 go_wp2
 go_ret
 exact⟨w.heap.size,rfl,(Below.refl _ _).alloc (Nat.le_refl _) _,Nat.le_refl _,Bx.new w [.pointer (some ⟨p,0,none⟩)] _ _ rfl⟩
def qih (S:StD) (k:Nat):Array Value:=match S.L[k]? with
 |some n=>#[.agg #[.bool n.sq.left.neg,.string n.sq.left.n,.int .i64 n.sq.left.e,.bool n.sq.low.neg,.string n.sq.low.n,.int .i64 n.sq.low.e,.int .i64 n.sq.e],.int .u8 (n.told:Int)]
 |none=>#[undef,undef]
theorem qmm (l:List Nat) (i k:Nat) (h:l[i]? =some k):(qay l)[i]? =some (.int .i64 (k:Int)):=by simp[qay,h]
set_option maxHeartbeats 6400000 in
theorem qjt (m:Nat) (hm1:1≤m) {w:World} {base p Bc:Nat} {v:Value} {u:RuD} {S:StD} (hM:TrM w base p v u S) (hS:GoodS S) (hW0:Whole S) (hb:Bx w Bc [.pointer (some ⟨p,0,none⟩)])
  {B0:Nat} {U:World→Nat→Prop} (hU:qfO B0 U) (hUT: ∀W k,k=Bc∨TrB p v k→¬U W k):
  qfF Fence.wide m prog 52 #[.pointer (some ⟨Bc,0,none⟩)] (qih S) U (fun pre k _=> ∃t,qak S=pre++k::t) (fun xs=>xs=qak S) (fun pre=> ∃t,qak S=pre++t) (qak S).length w:=by
 intro l J Jx W hW hJ hJx hlt hY h0
 have hTc: ∀k,k=Bc∨TrB p v k→k<w.heap.size∧∃o,w.heap[k]? =some o∧o.isCells=true:=by
  rintro k (rfl|hk)
  ·exact⟨hb.lt,cells_of_cell (hb.c 0 rfl)⟩
  ·exact hM.cellsB hS.pos k hk
 have HT:=qh (fun k hk=>(hTc k hk).1);have HC:=qh (fun k hk=>(hTc k hk).2);have HSM:=qh (show Same (fun k=>k=Bc∨TrB p v k) w W from⟨hW.size,fun k hk=>hW.block k (hTc k hk).1⟩);have HM:=qh hM;have HB:=qh hb;have c0:=(hb.same HSM.out (.inl rfl)).c 0 rfl;have PL:=qh (fun W h=>places_any (w:=W) (hM.same (T:=fun k=>k=Bc∨TrB p v k) h (fun k hk=>.inr hk)) hS hW0);have HPT:=qh (qbD hW0)
 have hplen:(qak S).length≤87381:=by
  have h1:=qc hW0;have h2:=hS.len;omega
 have HA:=qh (show At W.heap.size U (J []) W W from⟨h0,fun _ h=>h,Nat.le_refl _,hlt _ _ h0⟩);have HWB:=qh hW.size;have HS:=qh hS;clear hTc hM hS hW0 hb hW h0;refine callsIn_of_wp func52 rfl trivial ?_ rfl;simp only[ntmps52,List.size_toArray,List.length_cons,List.length_nil,Nat.reduceAdd,Nat.reduceSub,Array.replicate_succ,Array.replicate_zero,List.push_toArray,List.append_toArray,List.nil_append,List.cons_append];gi_wp2
 refine⟨trivial,(callsIn_wide.2 (PL.out W HSM.out)).mono ?_⟩;rintro e w1 ⟨x,rfl,hown,hk1⟩;obtain⟨A,c,hx0,-,-,-,-,-⟩:=hown.form;subst hx0;have HO0:=qh hown;have HSM1:=qh (HSM.out.kept hk1 HT.out);have HA1:=qh (HA.out.kept hJ hU hlt hk1)
 have HNU:Hid (∀k,(Value.slice A (qak S).length c).ownBlock=some k→¬U W k):=qh fun k hk e=>by
  have h1:=(hown.lt k hk).1;have h2:=hlt _ _ HA.out.inv _ e;omega
 obtain⟨B,hB⟩: ∃B,B=W.heap.size:=⟨_,rfl⟩
 rw[←hB]at hJ hJx HA1 HO0 HWB;obtain⟨L,hL⟩: ∃L,L=qak S:=⟨_,rfl⟩
 rw[←hL]at hY HPT hplen HO0 HNU⊢;obtain⟨LN,hLN⟩: ∃LN,LN=L.length:=⟨_,rfl⟩
 rw[←hLN]at hY hplen HO0 HNU⊢;have HLN:=qh hLN;have HLP:=qh hplen;have HLS:=qh hL;clear hB hL hLN hk1 hown c0 HA HSM PL;gi_wp2_with fail
 gi_loopg [9] (LN+1) (fun gh s9 wr=> ∃(i:Nat) (W0:World),i+gh=LN+1∧i≤LN∧s9=.int .i64 (i:Int)∧Own wr B 1 (.slice A LN c) LN (qay L)∧Same (fun k=>k=Bc∨TrB p v k) w wr∧At B U (J (L.take i)) W0 wr∧∀k,(Value.slice A LN c).ownBlock=some k→¬U W0 k)
 case atStart=>exact⟨0,W,by omega,by omega,rfl,HO0.out,HSM1.out,HA1.out,HNU.out⟩
 case round=>
  clear HO0 HSM1 HA1 HNU;obtain⟨i,W0,hig,hi,rfl,hown,hsm,hat,hnu⟩:=hrel;have HO:=qh hown;have HSM:=qh hsm;have HA:=qh hat;have HNU:=qh hnu;clear hown hsm hat hnu;rcases Nat.lt_or_ge i LN with hil|hil
  ·obtain⟨k,hk⟩: ∃k,L[i]? =some k:=⟨_,List.getElem?_eq_getElem (by have:=HLN.out;omega)⟩
   have HK:=qh hk;have hkm:=List.mem_of_getElem? hk;have hown:=HO.out;rcases hown.2 with ⟨-,h0⟩|⟨g,off,cap,he,hbg,hgl,hnc,hcm,hx,hc⟩
   ·omega
   injection he with he1 he2 he3;subst he1 he3;have hck:=hx i (.int .i64 (k:Int)) (qmm L i k hk);have HCAP:=qh (show 0<c by omega);have hkS:=HPT.out k hkm;obtain⟨n,hn⟩: ∃n,S.L[k]? =some n:=⟨_,List.getElem?_eq_getElem hkS⟩
   have HKN:=qh hn;have hi0:(0:Int)≤(i:Int):=by omega
   have hilI:(i:Int)<(LN:Int):=by omega
   have ewi:IntKind.i64.wrap ((i:Int)+1)=((i+1:Nat):Int):=by rw[IntWalk.i64_in _ (by omega)];omega
   have HEW:=qh ewi;have HIL:=qh hil;clear hk hkm hown hx hc hn ewi hil hkS;gi_upto_region 3 with fail
   have TM:=HM.out.same HSM.out (fun k hk=>.inr hk);obtain⟨gt,ot,ct,hv,-,hgt,-,hcell,-⟩:=TM.form HS.out.pos;have HCL:=qh (fun i y hy=>show wr.cell? ⟨gt,ot+k*13+i,none⟩=some y by rw[Nat.add_assoc];exact hcell k n i y HKN.out hy);have b0:=(HB.out.same HSM.out (.inl rfl)).c 0 rfl;have p1:=TM.box.c 1 rfl;rw[hv]at p1;have hkl:(k:Int)<((S.L.length:Nat):Int):=by have:=(List.getElem?_eq_some_iff.1 HKN.out).1;omega
   have hk0:(0:Int)≤(k:Int):=by omega
   clear hv TM hcell;generalize S.L.length=SN at hkl p1;refine wpIn_region_list ?_
   iterate 6
    refine wpListIn_plain rfl fun K hK=>?_;refine qaK (fun c h=>by cases h) ?_;go_step;refine hK _ _ ?_;clear hK K
   refine wpListIn_plain rfl fun K hK=>qaK (fun c h=>by cases h) (qau (vs:=ndV n) (g:=gt) (off:=ot+k*13) (n:=13) _ rfl rfl HCL.out rfl underlying91 rfl (by kernel_rfl) (hK _ _ ?_));clear hK K HCL;refine wpListIn_plain rfl fun K hK=>?_;refine qaK (fun c h=>by cases h) ?_;go_step;refine hK _ _ ?_;clear hK K;have KY:=qh (Kept.new (Below.refl _ wr) (.cells #[.bool false,.string ⟨#[]⟩,.int .i64 0,.bool false,.string ⟨#[]⟩,.int .i64 0,.int .i64 0,.int .u8 0,.int .i64 0,.int .i64 0,.int .i64 0,.int .i64 0,.int .i64 0] 91));have BY:=qh (Bx.new wr [.bool false,.string ⟨#[]⟩,.int .i64 0,.bool false,.string ⟨#[]⟩,.int .i64 0,.int .i64 0,.int .u8 0,.int .i64 0,.int .i64 0,.int .i64 0,.int .i64 0,.int .i64 0] 91 wr.heap.size rfl);obtain⟨y,hy⟩: ∃y,y=wr.heap.size:=⟨_,rfl⟩
   have HY:=qh (show wr.heap.size≤y by omega);rw[←hy]at BY⊢;clear hy b0 p1;generalize World.alloc wr _=w4 at *;refine wpListIn_plain rfl fun K hK=>qaK (fun c h=>by cases h) (qaa (vs:=ndV n) (b:=y) (n:=13) _ _ rfl rfl rfl BY.out rfl rfl (by kernel_rfl) rfl (hK _ _ ?_));clear hK K;replace BY:=qh (BY.out.row (ndV n));replace KY:=qh (Kept.row KY.out HY.out (ndV n));generalize World.setRow w4 _ _=w5 at *;have HO5:=qh (HO.out.kept KY.out);have HSM5:=qh (HSM.out.kept KY.out HT.out);have HA5:=qh (HA.out.kept hJ hU hlt KY.out);have HGY:=qh (show g≠y by have:=HY.out;omega);have HGL:=qh (show g<w5.heap.size by have:=KY.out.size;omega);have hsz5:=KY.out.size;clear KY HY HO HSM HA hck hkl hk0
   have hdrop:L=L.take i++k::L.drop (i+1):=by
    have h1:=HK.out;obtain⟨h2,h3⟩:=List.getElem?_eq_some_iff.1 h1;rw[←h3,←List.drop_eq_getElem_cons h2,List.take_append_drop]
   have htk:L.take i++[k]=L.take (i+1):=by
    rw[List.take_add_one,HK.out];rfl
   have HTK:=qh htk;have HDR:=qh hdrop;obtain⟨fn,tmps,assign,body,hyl,hR⟩:=hY _ k w5 HA5.out.inv ⟨_,hdrop⟩ (by rw[List.length_take];have:=HIL.out;omega);have he:qih S k=#[.agg #[.bool n.sq.left.neg,.string n.sq.left.n,.int .i64 n.sq.left.e,.bool n.sq.low.neg,.string n.sq.low.n,.int .i64 n.sq.low.e,.int .i64 n.sq.e],.int .u8 (n.told:Int)]:=by unfold qih;rw[HKN.out]
   rw[he]at hyl;have HR:=qh hR;clear hR hdrop htk he;have y0:=BY.out.c 0 rfl;have y1:=BY.out.c 1 rfl;have y2:=BY.out.c 2 rfl;have y3:=BY.out.c 3 rfl;have y4:=BY.out.c 4 rfl;have y5:=BY.out.c 5 rfl;have y6:=BY.out.c 6 rfl;have y7:=BY.out.c 7 rfl;gi_wp2_with fail
   refine HR.out.mono ?_;rintro e W3 (⟨rfl,hJ4,hk4⟩|⟨rfl,hJx4⟩)
   ·rw [HTK.out]at hJ4
    have HJ4:=qh hJ4;have hcB:=HO5.out.cellsB (by have:=HCAP.out;omega);have hnu5: ¬U w5 g:=fun e=>HNU.out g rfl (HA5.out.used g e)
    have hbg5:W3.heap[g]? =w5.heap[g]? :=by
     obtain⟨o,ho,hco⟩:=hcB;rw[hk4.same g o ho hco hnu5,ho]
    have HO7:=qh (HO5.out.keep hk4.size (fun g' hg' o=>by cases hg';exact⟨World.cell?_of_block (a:=⟨g,o,none⟩) hbg5,World.frozen?_of_block (a:=⟨g,o,none⟩) hbg5⟩));have HSM7:=qh (HSM5.out.qpB hk4 HC.out (fun k hk=>hUT w5 k hk));have HNU7:=qh (show¬U W3 g from fun e=>(hk4.used g e).elim hnu5 (fun h=>by have:=HGL.out;omega));clear hk4 hJ4 hcB hnu5 hbg5 y0 y1 y2 y3 y4 y5 y6 y7 hyl;have ewi:=HEW.out;gi_wp2_with fail
    gi_roundg (LN-i)
    case measure=>have:=HIL.out;omega
    case rel=>exact⟨i+1,W3,by have:=HIL.out;omega,by have:=HIL.out;omega,by go_num,HO7.out,HSM7.out,⟨HJ4.out,fun _ h=>h,Nat.le_refl _,hlt _ _ HJ4.out⟩,fun j hj=>by cases hj;exact HNU7.out⟩
   ·have HX4:=qh hJx4
    gi_wp2
    refine bodyPost_ret (results_none rfl _ _ _) rfl ?_;rw[HTK.out]at HX4;exact⟨⟨_,rfl⟩,.inr ⟨_,⟨L.drop (i+1),by rw[←HLS.out];exact(List.take_append_drop (i+1) L).symm⟩,HX4.out⟩⟩
  ·have hA:=HA.out
   rw[List.take_of_length_le (by have:=HLN.out;omega)]at hA;have HAI:=qh hA.inv;have hge: ¬(i:Int)<(LN:Int):=by omega
   clear hA HA HO HSM HNU;gi_wp2_with fail
   go_end0
   exact⟨⟨_,rfl⟩,.inl (HLS.out ▸ HAI.out)⟩
end
theorem qhQ {s:SqD} {q:SqD×SqD×SqD×SqD} (hs:sqB s=true) (h:qbN s=some q):sqB q.1=true∧sqB q.2.1=true∧sqB q.2.2.1=true∧sqB q.2.2.2=true:=by
 unfold qbN at h;cases hp:qaQ s with
 |none=>rw[hp]at h;cases h
 |some l=>
  obtain⟨hl,hl2⟩:=qcL hs hp;match l,hl with
  |[a,b,c,e],_=>
   rw[hp]at h;simp only at h;split at h
   ·cases h;exact⟨hl2 _ (by simp),hl2 _ (by simp),hl2 _ (by simp),hl2 _ (by simp)⟩
   ·cases h
theorem GoodS.qbV {S:StD} (h:GoodS S) (u:RuD) (k:Nat):GoodS (qbV (qbQ u) S k).1:=by
 cases hs:qav S k with
 |none=>rw[qdz hs];exact h
 |some x=>
  obtain⟨n,q⟩:=x;rw[qcN hs];obtain⟨h1,_,_,_,_,h6⟩:=qbf hs;exact h.part hs (qhQ (h.nd k n h1).sq h6) _ (fun s=>qlC u s)
theorem qm5 (t:SqD→Nat) (S:StD) (k:Nat):(qbV t S k).1.L.length=S.L.length+(if (qbV t S k).2=true then 4 else 0):=by
 cases hs:qav S k with
 |none=>rw[qdz hs];simp
 |some x=>
  obtain⟨n,q⟩:=x;rw[qcN hs];show(qaI S.L k n q t).length=_;rw[qbR];simp
def qjo (w:World) (base p:Nat) (v:Value) (u:RuD) (S:StD) (w':World):Prop:=
 ∃v',TrM w' base p v' u S∧Far (TrB p v) w w'∧(v'.ownBlock=v.ownBlock∨∀i,v'.ownBlock=some i→w.heap.size≤i)
theorem Far.post {w w1 w2:World} {p:Nat} {v v1:Value} (h:Far (TrB p v) w w1) (hv:v1.ownBlock=v.ownBlock∨∀i,v1.ownBlock=some i→w.heap.size≤i) (g:Far (TrB p v1) w1 w2):Far (TrB p v) w w2:=
 h.trans g fun i hi hb=>by
  rcases hb with rfl|hb
  ·exact .inl rfl
  ·rcases hv with e|e
   ·exact .inr (e ▸ hb)
   ·have:=e i hb;omega
theorem qnG {w w1:World} {v v1 v2:Value} (hs:w.heap.size≤w1.heap.size) (hv:v1.ownBlock=v.ownBlock∨∀i,v1.ownBlock=some i→w.heap.size≤i) (hw:v2.ownBlock=v1.ownBlock∨∀i,v2.ownBlock=some i→w1.heap.size≤i):v2.ownBlock=v.ownBlock∨∀i,v2.ownBlock=some i→w.heap.size≤i:=by
 rcases hw with e|e
 ·rw [e];exact hv
 ·exact .inr fun i hi=>by have:=e i hi;omega
theorem qml {w:World} {base p:Nat} {v:Value} {u:RuD} {S:StD} {k:Nat} (hM:TrM w base p v u S) (hS:GoodS S) (hk:k<S.L.length) (hT:T32 w) (hu:u.ok):
  Calls prog 34 #[.pointer (some ⟨p,0,none⟩),.int .i64 (k:Int)] w fun en w'=>en=.returned (.bool (qbV (qbQ u) S k).2)∧qjo w base p v u (qbV (qbQ u) S k).1 w':=by
 have hn:=List.getElem?_eq_getElem hk;cases hs:qav S k with
 |none=>exact(qoZ hM hS hn hT hu hs).mono fun en w' ⟨v',h1,h2⟩=>⟨h1,v',h2⟩
 |some x=>
  obtain⟨n,q⟩:=x;exact(qot hM hS (qbf hs).1 hT hu hs).mono fun en w' ⟨v',h1,h2⟩=>⟨h1,v',h2⟩
def qb3 (t:SqD→Nat):List Nat→StD→StD×Nat
 |[],S=>(S,0)
 |k::l,S=>((qb3 t l (qbV t S k).1).1,(if (qbV t S k).2=true then 1 else 0)+(qb3 t l (qbV t S k).1).2)
def stepD (t:SqD→Nat) (S:StD):StD×Nat:=qb3 t (qak S) S
theorem qhU (t:SqD→Nat): ∀l S,(qb3 t l S).2≤l.length
 |[],S=>by simp[qb3]
 |k::l,S=>by
  have:=qhU t l (qbV t S k).1;simp only[qb3,List.length_cons];split<;>omega
theorem qgA {u:RuD}: ∀l {S:StD},GoodS S→GoodS (qb3 (qbQ u) l S).1
 |[],S,h=>h
 |k::l,S,h=>qgA l (h.qbV u k)
theorem qfr {t:SqD→Nat}: ∀l {S:StD},Whole S→Whole (qb3 t l S).1
 |[],S,h=>h
 |k::l,S,h=>qfr l (h.part t k)
theorem T32.base {w w':World} {p base:Nat} {v:Value} {n:Nat} {xs:List Value} {size:Nat} (h:T32 w) (hf:Far (TrB p v) w w') (hg:1<base) (hp:base≤p) (ho:Own w base size v n xs):T32 w':=
 h.to hf (fun e=>by
  rcases e with e|e
  ·omega
  ·have:=(ho.lt _ e).1;omega)
set_option maxRecDepth 100000 in
set_option maxHeartbeats 6400000 in
theorem qnu {w:World} {base p:Nat} {v:Value} {u:RuD} {S:StD} (hM:TrM w base p v u S) (hS:GoodS S) (hW:Whole S) (hT:T32 w) (hu:u.ok) (hg:1<base):
  Calls prog 24 #[.pointer (some ⟨p,0,none⟩)] w fun en w'=>en=.returned (.tuple #[.int .i64 ((stepD (qbQ u) S).2:Nat),.int .i64 0])∧qjo w base p v u (stepD (qbQ u) S).1 w':=by
 have NN:=qh (qdm hM hS);have PL:=qh (places_any hM hS hW);have HM:=qh hM;have HS:=qh hS;have HW:=qh hW;have HT:=qh hT;have HU:=qh hu;have HG:=qh hg;have HLN:=qh (qc hW);have HLT:=qh (qbD hW);unfold stepD;obtain⟨LP,hLP⟩: ∃LP,LP=qak S:=⟨_,rfl⟩
 rw[←hLP]at PL HLN HLT⊢;clear hM hS hW hT hu hLP hg;have HE1:=qh (qhU (qbQ u) LP S);have HDR:=qh (show(qb3 (qbQ u) (LP.drop 0) S).1=(qb3 (qbQ u) LP S).1∧0+(qb3 (qbQ u) (LP.drop 0) S).2=(qb3 (qbQ u) LP S).2 by simp);generalize(qb3 (qbQ u) LP S).1=E1 at *;generalize(qb3 (qbQ u) LP S).2=E2 at *;go_enter func24,ntmps24
 go_wp2_with fail
 refine NN.out.mono ?_;rintro e w1 ⟨rfl,h1⟩;replace h1:=h1.symm;subst h1;go_wp2_with fail
 refine PL.out.mono ?_;rintro e w2 ⟨x,rfl,hx,hk2⟩;obtain⟨A,c,rfl,-,-,-,hA,-⟩:=hx.form;have hb: ∀i,(Value.slice A LP.length c).ownBlock=some i→w.heap.size≤i∧i<w2.heap.size:=fun i hi=>hx.lt i hi;have HX:=qh hx;have HB:=qh hb;have HK2:=qh hk2;clear hx hb hk2 NN PL hA;go_wp2_with fail
 have HLL:=qh (show LP.length≤87381 by have:=HLN.out;have:=HS.out.len;omega);obtain⟨N,hN⟩: ∃N,N=LP.length:=⟨_,rfl⟩
 rw[←hN]at HX HB HLL HE1⊢;have HN:=qh hN;clear hN
 go_loopg [4,12] N (fun gh v4 v12 wr=> ∃(j cnt:Nat) (Sm:StD) (vm:Value),j+gh=N∧v4=.int .i64 (cnt:Int)∧v12=.int .i64 (j:Int)∧cnt≤j∧((qb3 (qbQ u) (LP.drop j) Sm).1=E1∧cnt+(qb3 (qbQ u) (LP.drop j) Sm).2=E2)∧TrM wr base p vm u Sm∧GoodS Sm∧Far (TrB p v) w wr∧
  (vm.ownBlock=v.ownBlock∨∀i,vm.ownBlock=some i→w.heap.size≤i)∧S.L.length≤Sm.L.length∧Own wr w.heap.size 1 (.slice A N c) N (qay LP)∧T32 wr∧∀i,(Value.slice A N c).ownBlock=some i→¬TrB p vm i)
 case atStart=>
  exact⟨0,0,S,v,by omega,rfl,rfl,Nat.le_refl _,HDR.out,HM.out.kept HK2.out,HS.out,Far.qcc HK2.out,.inl rfl,Nat.le_refl _,HX.out,HT.out.kept HK2.out,fun i hi hb=>by
   have h1:=(HB.out i hi).1;rcases hb with rfl|hb
   ·have:=HM.out.box.lt;omega
   ·have:=(HM.out.own.lt i hb).2;omega⟩
 case round=>
  clear HX HDR HB;obtain⟨j,cnt,Sm,vm,hjg,rfl,rfl,hcj,hE,hM2,hS2,hF2,hv2,hl2,hX2,hT2,hn2⟩:=hrel;have HE:=qh hE;have HM2:=qh hM2;have HS2:=qh hS2;have HF2:=qh hF2;have HV2:=qh hv2;have HL2:=qh hl2;have HX2:=qh hX2;have HT2:=qh hT2;have HN2:=qh hn2;clear hE hM2 hS2 hF2 hv2 hl2 hX2 hT2 hn2;cases gk with
  |zero=>
   obtain rfl:j=N:=by omega
   have he:=HE.out;rw[HN.out,List.drop_length]at he;simp only[qb3,Nat.add_zero]at he;obtain⟨rfl,rfl⟩:=he;go_wp2_with fail
   exact bodyPost_ret (v:=.tuple #[.int .i64 (cnt:Int),.int .i64 0]) (by simp[results,results24,go_sem]) rfl ⟨rfl,vm,HM2.out,HF2.out,HV2.out⟩
  |succ gj=>
   obtain⟨k,hk⟩: ∃k,LP[j]? =some k:=⟨_,List.getElem?_eq_getElem (by have:=HN.out;omega)⟩
   have hjN:(j:Int)<(N:Int):=by omega
   have hkm:k∈LP:=List.mem_of_getElem? hk
   obtain⟨g,off,rfl,hcx⟩: ∃g off,A=some ⟨g,off,none⟩∧wr.cell? ⟨g,off+j,none⟩=some (.int .i64 (k:Int)):=by
    rcases HX2.out.2 with ⟨-,h0⟩|⟨g,off,cap,e,-,-,-,-,hx,-⟩
    ·omega
    ·injection e with e1
     exact⟨g,off,e1,hx j _ (by simp[qay,hk])⟩
   have hlt:=HLT.out k hkm;have ewj:IntKind.i64.wrap ((j:Int)+1)=((j+1:Nat):Int):=by have:=HLL.out;rw[IntWalk.i64_in _ (by omega)];omega
   have PA:=qh (qml (k:=k) HM2.out HS2.out (by have:=HL2.out;omega) HT2.out HU.out);have HDJ:=qh (show LP.drop j=k::LP.drop (j+1)from List.drop_eq_getElem_cons (by have:=HN.out;omega) |>.trans (by rw[List.getElem?_eq_some_iff.1 hk |>.2]));clear hkm hlt hk;go_wp2_with fail
   refine PA.out.mono ?_;rintro e w3 ⟨rfl,vn,hM3,hF3,hv3⟩;have hpl:=qm5 (qbQ u) Sm k;have hgs:=HS2.out.qbV u k;have he:=HE.out;rw[HDJ.out]at he;simp only[qb3]at he;obtain⟨b3,hb3⟩: ∃b3,b3=(qbV (qbQ u) Sm k).2:=⟨_,rfl⟩
   rw[←hb3]at hpl he⊢;clear hb3;generalize(qbV (qbQ u) Sm k).1=S3 at *;have HM3:=qh hM3;have HS3:=qh hgs;have HF3:=qh (HF2.out.post HV2.out hF3);have HV3:=qh (qnG HF2.out.size HV2.out hv3);have HL3:=qh (show S.L.length≤S3.L.length by have:=HL2.out;omega);have HX3:=qh (HX2.out.to hF3 (fun i hi=>HN2.out i hi));have HT3:=qh (HT2.out.base hF3 HG.out HM2.out.ge HM2.out.own)
   have HN3:Hid (∀i,(Value.slice (some ⟨g,off,none⟩) N c).ownBlock=some i→¬TrB p vn i):=qh fun i hi hb=>by
    have h1:=HN2.out i hi;rcases hb with rfl|hb
    ·exact h1 (.inl rfl)
    ·rcases hv3 with e|e
     ·exact h1 (.inr (e ▸ hb))
     ·have h2:=e i hb
      have h3:=(HX2.out.lt i hi).2;omega
   have HEN:=qh he;have hwr:=(HM2.out.box.lt)
   clear hM3 hgs hF3 hv3 hpl he HM2 HS2 HF2 HV2 HL2 HX2 HT2 HN2 HE PA hcx hwr;cases b3 with
   |false=>
    simp only[Bool.false_eq_true,if_false,Nat.zero_add]at HEN;go_wp2_with fail
    go_roundg gj
    case measure=>omega
    case rel=>exact⟨j+1,cnt,S3,vn,by omega,rfl,by go_num,by omega,HEN.out,HM3.out,HS3.out,HF3.out,HV3.out,HL3.out,HX3.out,HT3.out,HN3.out⟩
   |true=>
    have hen:=HEN.out;simp only[if_true,←Nat.add_assoc]at hen;have HEM:=qh hen;clear hen HEN;have ew:IntKind.i64.wrap ((cnt:Int)+1)=((cnt+1:Nat):Int):=by have:=HLL.out;rw[IntWalk.i64_in _ (by omega)];omega
    go_wp2_with fail
    go_roundg gj
    case measure=>omega
    case rel=>exact⟨j+1,cnt+1,S3,vn,by omega,by go_num,by go_num,by omega,HEM.out,HM3.out,HS3.out,HF3.out,HV3.out,HL3.out,HX3.out,HT3.out,HN3.out⟩
set_option maxRecDepth 100000 in
set_option maxHeartbeats 6400000 in
theorem qne {w:World} {base p:Nat} {v:Value} {u:RuD} {S:StD} (hM:TrM w base p v u S) (hS:GoodS S):
  Calls prog 37 #[.pointer (some ⟨p,0,none⟩)] w fun en w'=>en=.returned (.int .i64 (qcM S.L:Nat))∧Kept w w':=by
 have NN:=qh (qdm hM hS);obtain⟨gt,ot,ct,rfl,-,hgt,-,hcell,-⟩:=hM.form hS.pos;have p1:=hM.box.c 1 rfl;have HM:=qh hM;have HS:=qh hS;have HLN:=qh hS.len;have HNL:Hid (∃LN,LN=S.L.length):=qh ⟨_,rfl⟩;obtain⟨LN,hLN⟩:=HNL.out;have HN:=qh hLN;rw[←hLN]at p1 HLN;have HCL:=qh hcell;have HGT:=qh hgt;have HD0:=qh (show((S.L.drop 0).map NdD.depth).foldl max 0=qcM S.L from rfl);generalize qcM S.L=DD at *;clear hM hS hLN hcell hgt HNL;go_enter func37,ntmps37
 go_wp2_with fail
 refine NN.out.mono ?_;rintro e w1 ⟨rfl,h1⟩;replace h1:=h1.symm;subst h1;go_wp2_with fail
 go_loopg [3,13] LN (fun gh v3 v13 wr=> ∃j d:Nat,j+gh=LN∧v3=.int .i64 (d:Int)∧v13=.int .i64 (j:Int)∧((S.L.drop j).map NdD.depth).foldl max d=DD∧d≤40∧Kept w wr)
 case atStart=>exact⟨0,0,by omega,rfl,rfl,HD0.out,by omega,Below.refl _ _⟩
 case round=>
  obtain⟨j,d,hjg,rfl,rfl,hd,hd4,hk⟩:=hrel;have HK:=qh hk;have HD:=qh hd;clear hk hd;cases gk with
  |zero=>
   obtain rfl:j=LN:=by omega
   have he:=HD.out;rw[HN.out,List.drop_length]at he;simp only[List.map_nil,List.foldl_nil]at he;subst he;go_wp2_with fail
   go_ret
   exact⟨rfl,HK.out⟩
  |succ gj=>
   obtain⟨n,hn⟩: ∃n,S.L[j]? =some n:=⟨_,List.getElem?_eq_getElem (by have:=HN.out;omega)⟩
   have hjN:(j:Int)<(LN:Int):=by omega
   have hj0:(0:Int)≤(j:Int):=by omega
   have ewj:IntKind.i64.wrap ((j:Int)+1)=((j+1:Nat):Int):=by have:=HLN.out;rw[IntWalk.i64_in _ (by omega)];omega
   have HC:=qh (fun i y hy=>(HK.out.cells gt (ot+j*13+i) HGT.out).trans (show w.cell? ⟨gt,ot+j*13+i,none⟩=some y by rw[Nat.add_assoc];exact HCL.out j n i y hn hy));have hnd:=(HS.out.nd j n hn).depth;have he:=HD.out;rw[List.drop_eq_getElem_cons (show j<S.L.length by have:=HN.out;omega),(List.getElem?_eq_some_iff.1 hn).2]at he;simp only[List.map_cons,List.foldl_cons]at he;have HE:=qh he;clear he hn HD;go_upto_region 6 with fail
   refine wp_region_list ?_;refine wpList_plain rfl fun K hK=>?_;go_step;refine hK _ _ ?_;clear hK K;refine wpList_plain rfl fun K hK=>qau (vs:=ndV n) (g:=gt) (off:=ot+j*13) (n:=13) _ rfl rfl HC.out rfl underlying91 rfl (by kernel_rfl) (hK _ _ ?_);clear hK K HC;refine wpList_plain rfl fun K hK=>?_;go_step;refine hK _ _ ?_;clear hK K;have KY:=qh (Kept.new HK.out (.cells #[.bool false,.string ⟨#[]⟩,.int .i64 0,.bool false,.string ⟨#[]⟩,.int .i64 0,.int .i64 0,.int .u8 0,.int .i64 0,.int .i64 0,.int .i64 0,.int .i64 0,.int .i64 0] 91));have BY:=qh (Bx.new wr [.bool false,.string ⟨#[]⟩,.int .i64 0,.bool false,.string ⟨#[]⟩,.int .i64 0,.int .i64 0,.int .u8 0,.int .i64 0,.int .i64 0,.int .i64 0,.int .i64 0,.int .i64 0] 91 wr.heap.size rfl);obtain⟨y,hy⟩: ∃y,y=wr.heap.size:=⟨_,rfl⟩
   have HY:=qh (show w.heap.size≤y by have:=HK.out.size;omega);rw[←hy]at BY⊢;clear hy HK;generalize World.alloc wr _=w4 at *;refine wpList_plain rfl fun K hK=>qaa (vs:=ndV n) (b:=y) (n:=13) _ _ rfl rfl rfl BY.out rfl rfl (by kernel_rfl) rfl (hK _ _ ?_);clear hK K;replace BY:=qh (BY.out.row (ndV n));replace KY:=qh (Kept.row KY.out HY.out (ndV n));generalize World.setRow w4 _ _=w5 at *;have hc8:=BY.out.c 8 (show(ndV n)[8]? =some (.int .i64 (n.depth:Int))from rfl);obtain⟨dd,hdd⟩: ∃dd,dd=n.depth:=⟨_,rfl⟩
   rw[←hdd]at hc8 HE hnd;clear hdd BY HY;go_wp2_with fail
   go_roundg gj
   case measure=>omega
   case rel=>exact⟨j+1,max d dd,by omega,by congr 1;omega,by go_num,HE.out,by omega,KY.out⟩
theorem qkg {u:RuD} {S:StD} (h:GoodS S):GoodS (stepD (qbQ u) S).1:=qgA _ h
theorem qjb {t:SqD→Nat} {S:StD} (h:Whole S):Whole (stepD t S).1:=qfr _ h
section
set_option maxHeartbeats 6400000
set_option maxRecDepth 100000
attribute [local go_sem] qaf qad
theorem qjU (s:SqD) (w:World) (hs:s.ok) (hb:sqB s=false):
  Calls prog 31 #[.agg #[.bool s.left.neg,.string s.left.n,.int .i64 s.left.e,.bool s.low.neg,.string s.low.n,.int .i64 s.low.e,.int .i64 s.e]] w fun en w'=>en=.returned (.tuple #[.agg #[.complex .f64 0 0,.float .f64 0],.int .i64 240])∧Kept w w':=by
 have RT:Hid (∀W,Calls prog 54 #[.agg #[.bool s.left.neg,.string s.left.n,.int .i64 s.left.e,.bool s.low.neg,.string s.low.n,.int .i64 s.low.e,.int .i64 s.e]] W fun en w'=>en=.returned (.int .i64 240)∧Kept W w'):=fun W=>by
  have:=qbx s W hs;rwa [hb]at this
 obtain⟨⟨a0,a1,a2⟩,⟨a3,a4,a5⟩,a6⟩:=s;simp only at RT⊢;clear hs hb;go_enter func31,ntmps31
 go_upto_region 1 with fail
 obtain⟨b,w1,hw,hb,B0,B1,K1,HB⟩:=qa6 w (LC3 a0 a1 a2 a3 a4 a5 a6) 26 [.complex .f64 0 0,.float .f64 0] 85;rw[←hw,←hb];clear hw hb;obtain⟨c0,c1,c2,c3,c4,c5,c6⟩:=B0.out.c7;go_upto_region 2 with (go_at_call 54;(with_reducible refine(RT.out _).mono ?_);rintro e w2 ⟨rfl,hk2⟩)
 have K2:=qh (K1.out.trans' hk2);have B2:=qh (B1.out.kept hk2);clear hk2 c0 c1 c2 c3 c4 c5 c6 RT;refine wp_region_list ?_;refine wpList_plain rfl fun K hK=>qas [.complex .f64 0 0,.float .f64 0] _ _ rfl (by kernel_rfl) (hK _ _ ?_);clear hK K;refine wpList_plain rfl fun K hK=>qaa (vs:=[.complex .f64 0 0,.float .f64 0]) (b:=b+1) (n:=2) _ _ rfl rfl rfl B2.out rfl rfl (by kernel_rfl) rfl (hK _ _ ?_);clear hK K;replace B2:=qh (B2.out.row [.complex .f64 0 0,.float .f64 0]);replace K2:=qh (Kept.row K2.out (b:=b+1) (by have:=HB.out;omega) [.complex .f64 0 0,.float .f64 0]);generalize World.setRow w2 _ _=w3 at *;go_wp2_with fail
 exact qbT results31 underlying85 rfl (by kernel_rfl) rfl rfl B2.out rfl ⟨rfl,K2.out⟩
def qfN (s:SqD):BaD×Int:=if sqB s=true then qah s else(⟨0,0,0⟩,240)
theorem qhR (s:SqD) (w:World) (hs:s.ok) (hT:T32 w):
  Calls prog 31 #[.agg #[.bool s.left.neg,.string s.left.n,.int .i64 s.left.e,.bool s.low.neg,.string s.low.n,.int .i64 s.low.e,.int .i64 s.e]] w fun en w'=>en=.returned (qic (qfN s))∧Kept w w':=by
 unfold qfN;cases hb:sqB s with
 |true=>rw[if_pos rfl];exact qhY s w hb hT
 |false=>rw[if_neg (by simp)];exact qjU s w hs hb
def qey (u:RuD) (s:SqD):StD:=⟨[⟨s,qbQ u s,0,none⟩],1⟩
theorem qfl {u:RuD} {s:SqD} (hs:sqB s=true):GoodS (qey u s):=by
 refine⟨fun k n hk=>?_,fun k n p q r t hk hn=>?_,rfl,by show 1≤65536;omega,by show 0<1;omega⟩
 ·cases k with
  |zero=>cases hk;exact⟨hs,qlC u s,by show 0≤40;omega⟩
  |succ k=>simp[qey]at hk
 ·cases k with
  |zero=>cases hk;cases hn
  |succ k=>simp[qey]at hk
theorem qeR (u:RuD) (s:SqD):Whole (qey u s):=by
 refine⟨⟨_,[0],.leaf 0 ⟨s,qbQ u s,0,none⟩ rfl rfl,List.Perm.refl _⟩,fun k n p q r t hk hn=>?_,rfl,by show 0<1;omega,by show 1≤65536;omega⟩;cases k with
 |zero=>cases hk;cases hn
 |succ k=>simp[qey]at hk
def qiQ (w:World) (u:RuD) (s:SqD) (en:Ending) (w':World):Prop:=
 Kept w w'∧if sqB s=true∧(qah s).2=0 then∃p v,en=.returned (.tuple #[.pointer (some ⟨p,0,none⟩),.int .i64 0])∧TrM w' w.heap.size p v u (qey u s)
 else∃e:Int,e≠0∧en=.returned (.tuple #[.pointer none,.int .i64 e])∧e=(qfN s).2
theorem new_any {w:World} {u:RuD} (s:SqD) (hs:s.ok) (hu:u.ok) (hT:T32 w):
  Calls prog 9 #[.agg #[.bool s.left.neg,.string s.left.n,.int .i64 s.left.e,.bool s.low.neg,.string s.low.n,.int .i64 s.low.e,.int .i64 s.e],.iface 31 (.agg (ruL u).toArray)] w (qiQ w u s):=by
 have CV:=qh (fun W (hk:Kept w W)=>qhR s W hs (hT.kept hk));have hif: ∀W,(binOp .eql 82 (.iface 31 (.agg (ruL u).toArray)) .nilIface).run prog W=.ok (.bool false) W:=fun W=>by kernel_rfl
 obtain⟨PP,hPP⟩: ∃PP,PP=qiQ w u s:=⟨_,rfl⟩
 rw[←hPP];obtain⟨CB,hCB⟩: ∃CB,CB=qfN s:=⟨_,rfl⟩
 rw[←hCB]at CV
 have hgood:CB.2=0→sqB s=true∧(qah s).2=0∧CB=qah s:=fun h=>by
  rw[hCB]at h⊢;unfold qfN at h⊢;split at h
  ·rename_i h1;rw[if_pos h1];exact⟨h1,h,rfl⟩
  ·exact absurd h (show¬(240:Int)=0 by decide)
 have PX1:Hid (CB.2≠0→∀w',Kept w w'→PP (.returned (.tuple #[.pointer none,.int .i64 CB.2])) w'):=qh fun h w' hk=>by
  rw[hPP];refine⟨hk,?_⟩;rw[if_neg (fun h2=>h (by rw[hCB];unfold qfN;rw[if_pos h2.1];exact h2.2))];exact⟨_,h,rfl,by rw[hCB]⟩
 have PX0:Hid (CB.2=0→∀w' p v,Kept w w'→TrM w' w.heap.size p v u (qey u s)→PP (.returned (.tuple #[.pointer (some ⟨p,0,none⟩),.int .i64 0])) w'):=qh fun h w' p v hk hM=>by
  rw[hPP];refine⟨hk,?_⟩;rw[if_pos ⟨(hgood h).1,(hgood h).2.1⟩];exact⟨p,v,rfl,hM⟩
 have ASK:Hid (CB.2=0→∀W,Calls prog 32 #[.iface 31 (.agg (ruL u).toArray),.agg #[.complex .f64 CB.1.re CB.1.im,.float .f64 CB.1.r]] W fun en w'=>en=.returned (.int .u8 (qbQ u s:Nat))∧Kept W w'):=qh fun hc W=>by
  obtain⟨hb,-,he⟩:=hgood hc;have h:=qh1 hb;rw[he];exact qlz u hu _ _ _ h.1 h.2.1 h.2.2 W
 have HSD:Hid (qbJ (qey u s).L=[.bool s.left.neg,.string s.left.n,.int .i64 s.left.e,.bool s.low.neg,.string s.low.n,.int .i64 s.low.e,.int .i64 s.e,.int .u8 (qbQ u s:Nat),.int .i64 0,.int .i64 0,.int .i64 0,.int .i64 0,.int .i64 0]):=qh rfl;obtain⟨⟨b0,b1,b2⟩,ce⟩:=CB;obtain⟨tt,htt⟩: ∃tt,tt=qbQ u s:=⟨_,rfl⟩
 rw[←htt]at ASK HSD;simp only at CV PX0 PX1 ASK;clear hPP hgood hCB htt hs hu hT;generalize hSD:qey u s=SD at PX0 HSD;have HSN:Hid (SD.n=1∧SD.L.length=1):=qh (by rw[←hSD];exact⟨rfl,rfl⟩);clear hSD;obtain⟨⟨a0,a1,a2⟩,⟨a3,a4,a5⟩,a6⟩:=s;simp only at CV HSD⊢;obtain⟨RV,hRV⟩: ∃RV:Value,RV=.agg (ruL u).toArray:=⟨_,rfl⟩
 have HRV:=qh hRV;rw[←hRV]at ASK hif⊢;clear hRV;go_enter func9,ntmps9
 go_upto_region 1 with fail
 obtain⟨b,w1,hw,hb,B0,K1,HB⟩:=qa4 w (LC3 a0 a1 a2 a3 a4 a5 a6) 26;rw[←hw,←hb];clear hw hb;obtain⟨c0,c1,c2,c3,c4,c5,c6⟩:=B0.out.c7;go_upto_region 3 with fail
 refine wp_region_list ?_;refine wpList_plain rfl fun K hK=>?_;go_step;refine hK _ _ ?_;clear hK K;refine wpList_plain rfl fun K hK=>?_;go_step;(with_reducible refine(CV.out _ K1.out).mono ?_);rintro e w2 ⟨rfl,hk2⟩
 refine hK _ _ ?_;clear hK K CV;refine wpList_plain rfl fun K hK=>?_;go_step;refine hK _ _ ?_;clear hK K;refine wpList_plain rfl fun K hK=>?_;go_step;refine hK _ _ ?_;clear hK K;refine wpList_plain rfl fun K hK=>?_;go_step;refine hK _ _ ?_;clear hK K;refine wpList_plain rfl fun K hK=>?_;go_step;refine hK _ _ ?_;clear hK K;have K3:=qh (Kept.new hk2 (.cells #[.complex .f64 0 0,.float .f64 0] 85));have B2:=qh (Bx.new w2 [.complex .f64 0 0,.float .f64 0] 85 w2.heap.size rfl);obtain⟨c,hc⟩: ∃c,c=w2.heap.size:=⟨_,rfl⟩
 have HC:=qh (show w1.heap.size≤c by have:=hk2.size;omega);rw[←hc]at B2⊢;clear hc hk2 c0 c1 c2 c3 c4 c5 c6;generalize World.alloc w2 _=w3 at *;refine wpList_plain rfl fun K hK=>qaa (vs:=[.complex .f64 b0 b1,.float .f64 b2]) (b:=c) (n:=2) _ _ rfl rfl rfl B2.out rfl rfl (by kernel_rfl) rfl (hK _ _ ?_);clear hK K;replace B2:=qh (B2.out.row [.complex .f64 b0 b1,.float .f64 b2]);replace K3:=qh (Kept.row K3.out HC.out [.complex .f64 b0 b1,.float .f64 b2]);generalize World.setRow w3 _ _=w4 at *;by_cases hce:ce=0
 ·subst hce
  have ASK2:=qh (ASK.out rfl);have PX:=qh (PX0.out rfl);clear ASK PX0 PX1;go_upto_region 6 with fail
  have SK:Hid (∀W,Kept w4 W→(W.cell? ⟨b,0,none⟩=some (.bool a0)∧W.cell? ⟨b,1,none⟩=some (.string a1)∧W.cell? ⟨b,2,none⟩=some (.int .i64 a2)∧W.cell? ⟨b,3,none⟩=some (.bool a3)∧W.cell? ⟨b,4,none⟩=some (.string a4)∧W.cell? ⟨b,5,none⟩=some (.int .i64 a5)∧W.cell? ⟨b,6,none⟩=some (.int .i64 a6))∧W.cell? ⟨c,0,none⟩=some (.complex .f64 b0 b1)∧W.cell? ⟨c,1,none⟩=some (.float .f64 b2)):=qh fun W h=>⟨(B0.out.kept (K3.out.trans' h)).c7,(B2.out.kept h).c 0 rfl,(B2.out.kept h).c 1 rfl⟩
  have hS0:=SK.out _ (Below.refl _ w4).drew;have KX:Hid (Kept w4 w4.drew):=qh (Below.refl _ w4).drew;refine qac (fun W=>(W.cell? ⟨b,0,none⟩=some (.bool a0)∧W.cell? ⟨b,1,none⟩=some (.string a1)∧W.cell? ⟨b,2,none⟩=some (.int .i64 a2)∧W.cell? ⟨b,3,none⟩=some (.bool a3)∧W.cell? ⟨b,4,none⟩=some (.string a4)∧W.cell? ⟨b,5,none⟩=some (.int .i64 a5)∧W.cell? ⟨b,6,none⟩=some (.int .i64 a6))∧W.cell? ⟨c,0,none⟩=some (.complex .f64 b0 b1)∧W.cell? ⟨c,1,none⟩=some (.float .f64 b2)) [10] (by kernel_rfl) ?_ (fun hHeld=>?_)
  ·(first|assumption|exact SK.out _ K15.out|exact SK.out _ (K15.out.trans' (Kept.new (Below.refl _ _) _))|exact SK.out _ ((K15.out.trans' (Kept.new (Below.refl _ _) _)).trans' (Kept.new (Below.refl _ _) _)))
  refine wS 0 18 ?_;refine wS 1 19 ?_;refine wS 2 20 ?_;refine wS 3 21 ?_;refine oS 4 fun K hK=>?_;go_simp;(refine(ASK2.out _).mono ?_;rintro en w15 ⟨rfl,hk15⟩;have K15:Hid (Kept w4 w15):=qh ((Below.refl _ w4).drew.trans (hk15.mono (Nat.le_refl _)));have hS15:=SK.out w15 K15.out)
  refine hK.out _ _ ?_ (fun hHeld=>?_)
  ·(first|assumption|exact SK.out _ K15.out|exact SK.out _ (K15.out.trans' (Kept.new (Below.refl _ _) _))|exact SK.out _ ((K15.out.trans' (Kept.new (Below.refl _ _) _)).trans' (Kept.new (Below.refl _ _) _)))
  clear hK K;try simp only[Act.put,tdy]
  refine wS 5 23 ?_;refine oS 6 fun K hK=>?_;go_simp;refine hK.out _ _ ?_ (fun hHeld=>?_)
  ·(first|assumption|exact SK.out _ K15.out|exact SK.out _ (K15.out.trans' (Kept.new (Below.refl _ _) _))|exact SK.out _ ((K15.out.trans' (Kept.new (Below.refl _ _) _)).trans' (Kept.new (Below.refl _ _) _)))
  clear hK K;try simp only[Act.put,tdy]
  refine wS 7 25 ?_;refine oS 8 fun K hK=>?_;go_simp;refine hK.out _ _ ?_ (fun hHeld=>?_)
  ·(first|assumption|exact SK.out _ K15.out|exact SK.out _ (K15.out.trans' (Kept.new (Below.refl _ _) _))|exact SK.out _ ((K15.out.trans' (Kept.new (Below.refl _ _) _)).trans' (Kept.new (Below.refl _ _) _)))
  clear hK K;try simp only[Act.put,tdy]
  refine oS 9 fun K hK=>?_;go_simp;refine hK.out _ _ ?_ (fun hHeld=>?_)
  ·(first|assumption|exact SK.out _ K15.out|exact SK.out _ (K15.out.trans' (Kept.new (Below.refl _ _) _))|exact SK.out _ ((K15.out.trans' (Kept.new (Below.refl _ _) _)).trans' (Kept.new (Below.refl _ _) _)))
  clear hK K;try simp only[Act.put,tdy]
  refine eS 10 fun K hK=>?_;go_simp;refine hK.out _ _ ?_;clear hK K;try simp only[Act.put,tdy]
  refine dS ?_ _;have hK5:=(K1.out.trans' (K3.out.trans' K15.out))
  have hz6:w.heap.size≤w15.heap.size:=hK5.size;have HO:=Own.new w15 #[.bool a0,.string a1,.int .i64 a2,.bool a3,.string a4,.int .i64 a5,.int .i64 a6,.int .u8 (tt:Int),.int .i64 0,.int .i64 0,.int .i64 0,.int .i64 0,.int .i64 0] 91 (0,0) 1 13 (qbJ SD.L) w.heap.size w15.heap.size rfl hz6 (by unfold maxLen;omega) rfl (by rw[HSD.out]) (.inr rfl);have hK6:=Kept.new hK5 (.cells #[.bool a0,.string a1,.int .i64 a2,.bool a3,.string a4,.int .i64 a5,.int .i64 a6,.int .u8 (tt:Int),.int .i64 0,.int .i64 0,.int .i64 0,.int .i64 0,.int .i64 0] 91);generalize hW6:w15.alloc (.cells #[.bool a0,.string a1,.int .i64 a2,.bool a3,.string a4,.int .i64 a5,.int .i64 a6,.int .u8 (tt:Int),.int .i64 0,.int .i64 0,.int .i64 0,.int .i64 0,.int .i64 0] 91)=w6 at *;have hs6:w6.heap.size=w15.heap.size+1:=by(rw[←hW6];simp)
  clear hW6;have hB7:=Bx.new w6 [.iface 31 RV,.slice (some ⟨w15.heap.size,0,none⟩) 1 1,.int .i64 1] 94 (w15.heap.size+1) (by omega);have HP:=PX.out _ (w15.heap.size+1) (.slice (some ⟨w15.heap.size,0,none⟩) 1 1) (Kept.new hK6 (.cells #[.iface 31 RV,.slice (some ⟨w15.heap.size,0,none⟩) 1 1,.int .i64 1] 94)) ⟨by(rw[←HRV.out,HSN.out.1];exact hB7),by(rw[HSN.out.2];exact HO.alloc _),by omega,fun i hi=>by(cases hi;show w15.heap.size≠w15.heap.size+1;omega)⟩;clear HO hB7;go_wp2_with fail
  exact HP
 ·have hne:(ce != 0)=true:=by simpa using hce
  have PX:=qh (PX1.out hce);clear PX0 PX1 ASK hce;go_wp2_with fail
  have HP:=PX.out _ (K1.out.trans' K3.out);exact HP
end
def qbu (L:List NdD) (k:Nat):UInt8:=match L[k]? with
 |none=>0
 |some n=>if n.kids.isNone then TrT.qfC n.told else 112
def bytesD (S:StD):List UInt8:=(qdY S.L S.L.length 0).map (qbu S.L)
theorem qaz.codes {L:List NdD} {k:Nat} {t:TrT} {P:List Nat} (h:qaz L k t P):P.map (qbu L)=t.bytes:=by
 induction h with
 |leaf k n h1 h2=>simp[qbu,h1,h2,TrT.bytes]
 |node k n p q r s a b c e P Q R S h1 h2 _ _ _ _ i1 i2 i3 i4=>simp[qbu,h1,h2,TrT.bytes,i1,i2,i3,i4]
theorem qgu {S:StD} (hW:Whole S) {T:TrT} (h:qbk S.L 0 T):bytesD S=T.bytes:=by
 obtain⟨T',h1,_⟩:=hW.pre;rw[h.uniq h1.tree];exact h1.codes
def Apart (v w:Value):Prop:= ∀i,v.ownBlock=some i→w.ownBlock≠some i
theorem Apart.sw {v w:Value} (h:Apart v w):Apart w v:=fun i hi hj=>h i hj hi
theorem Apart.grown {W:World} {v w v':Value} {base size n:Nat} {xs:List Value} (h:Apart v w) (hw:Own W base size w n xs) (hv:v'.ownBlock=v.ownBlock∨∀i,v'.ownBlock=some i→W.heap.size≤i):Apart v' w:=fun i hi hj=>by
 rcases hv with e|e
 ·exact h i (e ▸ hi) hj
 ·have h1:=e i hi;have h2:=(hw.lt i hj).2;omega
set_option maxRecDepth 100000 in
set_option maxHeartbeats 6400000 in
theorem qhz {w:World} {base p:Nat} {v:Value} {u:RuD} {S:StD} (hM:TrM w base p v u S) (hS:GoodS S) (hW:Whole S):
  Calls prog 13 #[.pointer (some ⟨p,0,none⟩)] w fun en w'=>en=.returned (.string ⟨(bytesD S).toArray⟩)∧Kept w w':=by
 have NN:=qh (qdm hM hS);have HM:=qh hM;have HS:=qh hS;have HLN:=qh hS.len;have HPL:=qh hW.qiJ;have HP0:=qh (qch.start hW);have HBD:=qh (show bytesD S=(qdY S.L S.L.length 0).map (qbu S.L)from rfl);obtain⟨BD,hBD⟩: ∃BD,BD=bytesD S:=⟨_,rfl⟩
 rw[←hBD]at HBD⊢;clear hM hS hW hBD;go_enter func13,ntmps13
 go_wp2_with fail
 refine NN.out.mono ?_;rintro e w1 ⟨rfl,h1⟩;replace h1:=h1.symm;subst h1;have KA:=qh (Kept.new (Below.refl _ w) (.cells #[.int .i64 0] 3));have HO0:=qh (Own.new w #[.int .i64 0] 3 (0,0) 1 1 [.int .i64 0] w.heap.size w.heap.size rfl (Nat.le_refl _) (by decide) rfl rfl (.inr rfl));go_wp2_with fail
 generalize w.alloc _=wa at *;go_loopg [3,4] (S.L.length+1) (fun gh v3 v4 wr=> ∃(ks done R:List Nat) (vb vp:Value),R.length<gh∧v3=vb∧v4=vp∧qch S ks done R∧Own wr w.heap.size 1 vp ks.length (qay ks.reverse)∧Own wr w.heap.size 1 vb done.length (bytesV (done.map (qbu S.L)))∧Apart vb vp∧Kept w wr)
 case atStart=>exact⟨[0],[],qdY S.L S.L.length 0,_,_,by have:=HPL.out;omega,rfl,rfl,HP0.out,HO0.out,Own.nil _ _ _,(fun i hi=>by cases hi),KA.out⟩
 case round=>
  clear HO0 KA HP0;obtain⟨ks,done,R,vb,vp,hgh,rfl,rfl,hp,hop,hob,hap,hk⟩:=hrel;have HP:=qh hp;have HOB:=qh hob;have HAP:=qh hap;have HK:=qh hk;have hall:=hp.all
  have hbd:done.length+R.length≤87381:=by
   have h1:=HPL.out;rw[hall]at h1;have h2:=HLN.out;rw[←List.length_append,h1];exact h2
  have HBN:=qh hbd;clear hp hob hap hk hall hbd;cases ks with
  |nil=>
   have hE:=HP.out.end_;obtain⟨-,rfl⟩:=hE;have hall:=HP.out.all;rw[List.append_nil]at hall;have hb2:BD=done.map (qbu S.L):=by rw[HBD.out,hall]
   obtain⟨A1,c1,hv1,-,-,-,-,-⟩:=hop.form;simp only[List.length_nil]at hv1;subst hv1;obtain⟨A2,c2,rfl,-,-,hrow,-,-⟩:=HOB.out.form
   have hcv:(convert 97 9 (.slice A2 done.length c2)).run prog wr=.ok (.string ⟨BD.toArray⟩) wr:=by
    rw[hb2];exact qeP underlying97 underlying5 underlying9 (by simp) hrow
   clear hop hb2 hall hrow HP HAP HOB;go_wp2_with fail
   go_ret
   exact⟨rfl,HK.out⟩
  |cons k ks=>
   obtain⟨n,R',hk,rfl,hnext⟩:=HP.out.next;rcases hop.2 with ⟨-,h0⟩|⟨g,off,cap,rfl,hbg,hgl,hnc,hcm,hx,hc⟩
   ·simp at h0
   have hck:=hx ks.length (.int .i64 (k:Int)) (by simp[qay]);have hO2:=hop.front (k:=ks.length) (by simp);have hle:=HP.out.pile.le;have hbnd:ks.length≤87381:=by have:=HBN.out;simp only[List.length_cons]at this hle;omega
   have HO2:Hid (Own wr w.heap.size 1 (.slice (some ⟨g,off,none⟩) ks.length cap) ks.length (qay ks.reverse)):=by
    have e:(qay (k::ks).reverse).take (ks.length*1)=qay ks.reverse:=by
     simp[qay,List.take_append]
    rw[e]at hO2;exact qh hO2
   have HAP2:Hid (Apart _ (Value.slice (some ⟨g,off,none⟩) ks.length cap)):=qh HAP.out;clear hop hx hc hO2 HAP;have HBK:=qh hbnd;have HNX:=qh hnext;have HKN:=qh hk;have HRL:=qh (show R'.length+1<gk from by simpa using hgh);simp only[List.length_cons]at hnc⊢;obtain⟨nm,hnm⟩: ∃nm,nm=ks.length:=⟨_,rfl⟩
   rw[←hnm]at hck hbnd hnc HO2 HBK HAP2⊢;have HNM:=qh hnm;have ew:IntKind.i64.wrap (((nm+1:Nat):Int)-1)=(nm:Int):=by rw[IntWalk.i64_in _ (by omega)];omega
   have ew2:IntKind.i64.wrap ((nm:Int)+1-1)=(nm:Int):=by rw[IntWalk.i64_in _ (by omega)];omega
   have ew0:IntKind.i64.wrap (nm:Int)=(nm:Int):=by rw[IntWalk.i64_in _ (by omega)]
   have hnc2:nm≤cap:=by omega
   have hpos:(0:Int)<((nm+1:Nat):Int):=by omega
   have hidx:(nm:Int)<((nm+1:Nat):Int):=by omega
   clear hnm hnext hk hle hbnd hgh;go_upto_region 8 with fail
   have TM:=HM.out.kept HK.out;obtain⟨gt,ot,ct,hv,-,hgt,-,hcell,-⟩:=TM.form HS.out.pos;have HCL:=qh (fun i y hy=>show wr.cell? ⟨gt,ot+k*13+i,none⟩=some y by rw[Nat.add_assoc];exact hcell k n i y HKN.out hy);have p1:=TM.box.c 1 rfl;rw[hv]at p1;have hkl:(k:Int)<((S.L.length:Nat):Int):=by have:=(List.getElem?_eq_some_iff.1 HKN.out).1;omega
   have hk0:(0:Int)≤(k:Int):=by omega
   clear hv TM hcell;generalize S.L.length=LN at hkl p1;refine wp_region_list ?_;refine wpList_plain rfl fun K hK=>?_;go_step;refine hK _ _ ?_;clear hK K;refine wpList_plain rfl fun K hK=>?_;go_step;refine hK _ _ ?_;clear hK K;refine wpList_plain rfl fun K hK=>?_;go_step;refine hK _ _ ?_;clear hK K;refine wpList_plain rfl fun K hK=>?_;go_step;refine hK _ _ ?_;clear hK K;refine wpList_plain rfl fun K hK=>?_;go_step;refine hK _ _ ?_;clear hK K;refine wpList_plain rfl fun K hK=>?_;go_step;refine hK _ _ ?_;clear hK K;refine wpList_plain rfl fun K hK=>qau (vs:=ndV n) (g:=gt) (off:=ot+k*13) (n:=13) _ rfl rfl HCL.out rfl underlying91 rfl (by kernel_rfl) (hK _ _ ?_);clear hK K HCL;refine wpList_plain rfl fun K hK=>?_;go_step;refine hK _ _ ?_;clear hK K;have KY:=qh (Kept.new (Below.refl _ wr) (.cells #[.bool false,.string ⟨#[]⟩,.int .i64 0,.bool false,.string ⟨#[]⟩,.int .i64 0,.int .i64 0,.int .u8 0,.int .i64 0,.int .i64 0,.int .i64 0,.int .i64 0,.int .i64 0] 91));have BY:=qh (Bx.new wr [.bool false,.string ⟨#[]⟩,.int .i64 0,.bool false,.string ⟨#[]⟩,.int .i64 0,.int .i64 0,.int .u8 0,.int .i64 0,.int .i64 0,.int .i64 0,.int .i64 0,.int .i64 0] 91 wr.heap.size rfl);obtain⟨y,hy⟩: ∃y,y=wr.heap.size:=⟨_,rfl⟩
   have HY:=qh (show wr.heap.size≤y by omega);rw[←hy]at BY⊢;clear hy p1;generalize World.alloc wr _=w4 at *;refine wpList_plain rfl fun K hK=>qaa (vs:=ndV n) (b:=y) (n:=13) _ _ rfl rfl rfl BY.out rfl rfl (by kernel_rfl) rfl (hK _ _ ?_);clear hK K;replace BY:=qh (BY.out.row (ndV n));replace KY:=qh (Kept.row KY.out HY.out (ndV n));generalize World.setRow w4 _ _=w5 at *;go_upto_region 9 with fail
   refine wp_region_list ?_;refine wpList_plain rfl fun K hK=>qag (vs:=ndV n) (b:=y) (n:=13) _ rfl rfl BY.out rfl underlying91 rfl (by kernel_rfl) (hK _ _ ?_);clear hK K;refine wpList_plain rfl fun K hK=>?_;go_step;(with_reducible refine(qcV n w5).mono ?_)
   rintro e w6 ⟨rfl,hk6⟩;refine hK _ _ ?_;clear hK K;have K6:=qh (KY.out.trans' hk6);have BY6:=qh (BY.out.kept hk6);have HO6:=qh (HO2.out.kept K6.out);have HB6:=qh (HOB.out.kept K6.out);have HK6:=qh (HK.out.trans' K6.out);have HYB:=qh (show w.heap.size≤y by have h1:=HY.out;have h2:=HK.out.size;omega);have HYN:=qh (show∀i,(Value.slice (some ⟨g,off,none⟩) nm cap).ownBlock=some i→i≠y from fun i hi=>by have h1:=(HO2.out.lt i hi).2;have h2:=HY.out;omega);have HYU:=qh (show∀i,u3.ownBlock=some i→i≠y from fun i hi=>by have h1:=(HOB.out.lt i hi).2;have h2:=HY.out;omega);clear hk6 KY BY HY HO2 HOB hck ew ew2 ew0 hpos hidx hkl hk0 K6 hgt hgl hbg hnc hcm hnc2;rcases HNX.out with ⟨hn,hp⟩|⟨kp,kq,kr,ksx,hn,hp⟩
   ·have hpb:qb4 n=false:=by rw[qbS HS.out HKN.out,hn];rfl
    rw[hpb];have HPA:=qh hp;have hcb:qbu S.L k=TrT.qfC n.told:=by unfold qbu;rw[HKN.out];simp[hn]
    have HCB:=qh hcb;have c7:=BY6.out.c 7 (show(ndV n)[7]? =some (.int .u8 (n.told:Int))from rfl);have ht2:=(HS.out.nd k n HKN.out).told;obtain⟨tt,htt⟩: ∃tt,tt=n.told:=⟨_,rfl⟩
    rw[←htt]at c7 ht2 HCB
    have hix: ∀W,(Instr.index 9 (.string ⟨#[117,105,111]⟩) (.int .u8 (tt:Int))).run prog W=.ok (.int .u8 (((TrT.qfC tt).toNat:Nat):Int)) W:=fun W=>by
     rcases(show tt=0∨tt=1∨tt=2 by omega)with rfl|rfl|rfl<;>kernel_rfl
    clear hp hn hpb HNX htt hcb;obtain⟨i0,hi,hi0,hi1,hi2⟩:=info_parts qiE;have hbN:done.length≤87381:=by have:=HBN.out;omega
    have hww:w.heap.size≤w6.heap.size:=HK6.out.size;go_wp2_with (at_builtin;refine qaq _ rfl _ _ 97 rfl w.heap.size 5 i0 (.int .u8 0) 1 1 underlying97 hi hi0 hi1 hi2 rfl (by decide) u3 done.length (bytesV (done.map (qbu S.L))) rfl (HB6.out.alloc _) (some ⟨w6.heap.size,0,none⟩) 1 1 [.int .u8 (((TrT.qfC tt).toNat:Nat):Int)] rfl rfl (Row.qbP _ _ _ _ _ _ rfl rfl) (by intro u hu;simp at hu;subst hu;rfl) (by unfold maxLen;omega) (by omega) (by simp;omega) ?_)
    intro v9 w9 hown9 hg9 hv9;have hKA:=Kept.new (Below.refl _ w6) (.cells #[.int .u8 (((TrT.qfC tt).toNat:Nat):Int)] 5);have HO9:=qh ((HO6.out.kept hKA).grown hg9 (fun i hi e=>HAP2.out.sw i hi e.symm));have HK9:=qh ((HK6.out.trans' hKA).grown hg9 (HK6.out.trans' hKA).size (fun i hi=>(HB6.out.lt i hi).1));have HAP9:=qh (HAP2.out.grown (HO6.out.kept hKA) (hv9.imp id (fun h i hi=>by have:=h i hi;simpa using this)))
    have HB9:Hid (Own w9 w.heap.size 1 v9 (done++[k]).length (bytesV ((done++[k]).map (qbu S.L)))):=by
     have e:bytesV ((done++[k]).map (qbu S.L))=bytesV (done.map (qbu S.L))++[.int .u8 (((TrT.qfC tt).toNat:Nat):Int)]:=by simp[bytesV,HCB.out]
     rw[e,List.length_append];exact qh hown9
    obtain⟨A9,c9,hv9',-,-,-,-,-⟩:=hown9.form;subst hv9';clear hown9 hg9 hv9 hKA HB6 HO6 HK6 HAP2 BY6 HP HBN c7 hix;go_wp2_with fail
    go_roundg (R'.length+1)
    case measure=>have:=HRL.out;omega
    case rel=>exact⟨ks,done++[k],R',_,_,Nat.lt_succ_self _,rfl,rfl,HPA.out,by rw[←HNM.out];exact HO9.out,HB9.out,HAP9.out,HK9.out⟩
   ·have hpb:qb4 n=true:=by rw[qbS HS.out HKN.out,hn];rfl
    rw[hpb];have HPA:=qh hp;have hcb:qbu S.L k=112:=by unfold qbu;rw[HKN.out];simp[hn]
    have HCB:=qh hcb
    have HKD:Hid (∀j:Nat,j<4→∃x i:Nat,i<4∧(3-(j:Int))=(i:Int)∧(ndV n)[9+i]? =some (.int .i64 (x:Int))∧[ksx,kr,kq,kp].take (j+1)=[ksx,kr,kq,kp].take j++[x]):=by
     have hkd:n.kid=(kp,kq,kr,ksx):=by unfold NdD.kid;rw[hn];rfl
     refine qh fun j hj=>?_;unfold ndV;rw[hkd];rcases(show j=0∨j=1∨j=2∨j=3 by omega)with rfl|rfl|rfl|rfl
     ·exact⟨ksx,3,by omega,rfl,rfl,rfl⟩
     ·exact⟨kr,2,by omega,rfl,rfl,rfl⟩
     ·exact⟨kq,1,by omega,rfl,rfl,rfl⟩
     ·exact⟨kp,0,by omega,rfl,rfl,rfl⟩
    obtain⟨i0,hi,hi0,hi1,hi2⟩:=info_parts qiE;have hbN:done.length≤87381:=by have:=HBN.out;omega
    have hww:w.heap.size≤w6.heap.size:=HK6.out.size;clear hp hn hpb hcb HNX;go_wp2_with (at_builtin;refine qaq _ rfl _ _ 97 rfl w.heap.size 5 i0 (.int .u8 0) 1 1 underlying97 hi hi0 hi1 hi2 rfl (by decide) u3 done.length (bytesV (done.map (qbu S.L))) rfl (HB6.out.alloc _) (some ⟨w6.heap.size,0,none⟩) 1 1 [.int .u8 112] rfl rfl (Row.qbP _ _ _ _ _ _ rfl rfl) (by intro u hu;simp at hu;subst hu;rfl) (by unfold maxLen;omega) (by omega) (by simp;omega) ?_)
    intro v9 w9 hown9 hg9 hv9;have hKA:=Kept.new (Below.refl _ w6) (.cells #[.int .u8 112] 5);have HO9:=qh ((HO6.out.kept hKA).grown hg9 (fun i hi e=>HAP2.out.sw i hi e.symm));have HK9:=qh ((HK6.out.trans' hKA).grown hg9 (HK6.out.trans' hKA).size (fun i hi=>(HB6.out.lt i hi).1));have HAP9:=qh (HAP2.out.grown (HO6.out.kept hKA) (hv9.imp id (fun h i hi=>by have:=h i hi;simpa using this)))
    have HB9:Hid (Own w9 w.heap.size 1 v9 (done++[k]).length (bytesV ((done++[k]).map (qbu S.L)))):=by
     have e:bytesV ((done++[k]).map (qbu S.L))=bytesV (done.map (qbu S.L))++[.int .u8 112]:=by simp[bytesV,HCB.out]
     rw[e,List.length_append];exact qh hown9
    have HY9:=qh ((BY6.out.kept hKA).qbw hg9 (fun e=>HYU.out y e rfl));obtain⟨A9,c9,hv9',-,-,-,-,-⟩:=hown9.form;subst hv9';clear hown9 hg9 hv9 hKA HB6 HO6 HK6 HAP2 BY6 HP HBN hi hi0 hi1 hi2;go_wp2_with fail
    obtain⟨vb,hvb⟩: ∃vb,vb=Value.slice A9 (done.length+1) c9:=⟨_,rfl⟩
    rw[←hvb]at HAP9 HB9;have HVB:=qh hvb;clear hvb;go_loopg [4,7] 4 (fun gj s4 s7 wx=> ∃(j:Nat) (vq:Value),j+gj=4∧s4=vq∧s7=.int .i64 (3-(j:Int))∧Bx wx y (ndV n)∧Own wx w.heap.size 1 vq (nm+j) (qay (ks.reverse++[ksx,kr,kq,kp].take j))∧Own wx w.heap.size 1 vb (done++[k]).length (bytesV ((done++[k]).map (qbu S.L)))∧Apart vb vq∧Kept w wx∧∀i,vq.ownBlock=some i→i≠y)
    case atStart=>exact⟨0,_,rfl,rfl,rfl,HY9.out,by rw[List.take_zero,List.append_nil];exact HO9.out,HB9.out,HAP9.out,HK9.out,HYN.out⟩
    case round=>
     clear HY9 HO9 HB9 HAP9 HK9 HYN;obtain⟨j,vq,hjg,rfl,rfl,hby,hown,hbn,hap,hkk,hyg⟩:=hrel;have HBY:=qh hby;have HO:=qh hown;have HB:=qh hbn;have HAP:=qh hap;have HK:=qh hkk;have HYG:=qh hyg;clear hby hown hbn hap hkk hyg;cases gk with
     |zero=>
      obtain rfl:j=4:=by omega
      go_wp2_with fail
      go_roundg (R'.length+1)
      case measure=>have:=HRL.out;omega
      case rel=>
       refine⟨kp::kq::kr::ksx::ks,done++[k],R',_,_,Nat.lt_succ_self _,rfl,rfl,HPA.out,?_,by rw[←HVB.out];exact HB.out,by rw[←HVB.out];exact HAP.out,HK.out⟩;have h:=HO.out;have e:ks.reverse++[ksx,kr,kq,kp].take 4=(kp::kq::kr::ksx::ks).reverse:=by simp
       rw[e,HNM.out]at h;exact h
     |succ gj=>
      obtain⟨x,i,hi4,hji,hnx,htk⟩:=HKD.out j (by omega);rw[hji];have hyc:=HBY.out.c _ hnx;have hi0:(0:Int)≤(i:Int):=by omega
      have hi4':(i:Int)<4:=by omega
      have ewi:IntKind.i64.wrap ((i:Int)-1)=(3-((j+1:Nat):Int)):=by rw[IntWalk.i64_in _ (by omega)];omega
      have HTK:=qh htk;have HEW:=qh ewi;clear hnx htk hji ewi;obtain⟨j0,hj1,hj2,hj3,hj5⟩:=info_parts qeM;have hbase:w.heap.size≤wr.heap.size:=HK.out.size;go_wp2_with (at_builtin;refine qaq _ rfl _ _ 98 rfl w.heap.size 3 j0 (.int .i64 0) 1 8 underlying98 hj1 hj2 hj3 hj5 rfl (by decide) u4 (nm+j) (qay (ks.reverse++[ksx,kr,kq,kp].take j)) rfl (HO.out.alloc _) (some ⟨wr.heap.size,0,none⟩) 1 1 [.int .i64 (x:Int)] rfl rfl (Row.qbP _ _ _ _ _ _ rfl rfl) (by intro u hu;simp at hu;subst hu;rfl) (by have:=HBK.out;unfold maxLen;omega) (by have:=HBK.out;omega) (by simp;omega) ?_)
      intro v9 w9 hown9 hg9 hv9;have hKA:=Kept.new (Below.refl _ wr) (.cells #[.int .i64 (x:Int)] 3);have HBY9:=qh ((HBY.out.kept hKA).qbw hg9 (fun e=>(HYG.out y e) rfl));have HB9:=qh ((HB.out.kept hKA).grown hg9 (fun i hi e=>HAP.out i hi e.symm));have HK9:=qh ((HK.out.trans' hKA).grown hg9 (HK.out.trans' hKA).size (fun i hi=>(HO.out.lt i hi).1));have HAP9:=qh ((HAP.out.sw.grown (HB.out.kept hKA) (hv9.imp id (fun h i hi=>by have:=h i hi;simpa using this))).sw)
      have HYG9:Hid (∀i,v9.ownBlock=some i→i≠y):=by
       refine qh fun i hi=>?_;rcases hv9 with h|h
       ·exact HYG.out i (h ▸ hi)
       ·have h1:=h i hi
        have h2:=HBY.out.lt;omega
      have hO9:Own w9 w.heap.size 1 v9 (nm+(j+1)) (qay (ks.reverse++[ksx,kr,kq,kp].take (j+1))):=by
       rw[HTK.out,←List.append_assoc,qcD];exact hown9
      obtain⟨A9,c9,rfl,-,-,-,-,-⟩:=hO9.form;have HO9:=qh hO9;have ewi:=HEW.out;clear hown9 hg9 hv9 hKA hO9 HBY HB HK HAP HYG HO hyc;go_wp2_with fail
      go_roundg gj
      case measure=>omega
      case rel=>exact⟨j+1,_,by omega,rfl,by go_num,HBY9.out,HO9.out,HB9.out,HAP9.out,HK9.out,HYG9.out⟩
section
set_option maxRecDepth 100000
attribute [local go_sem] qaf qad
theorem qmC (w:World):Calls prog 37 #[.pointer none] w fun en w'=>en=.returned (.int .i64 0)∧w'=w:=by
 go_enter func37,ntmps37
 go_wp2_with (go_at_call 35;(with_reducible refine(qee _).mono ?_);rintro e w3 ⟨rfl,rfl⟩)
 go_ret
 exact⟨rfl,rfl⟩
theorem qmo (w:World):Calls prog 13 #[.pointer none] w fun en w'=>en=.returned (.string ⟨#[]⟩)∧w'=w:=by
 go_enter func13,ntmps13
 go_wp2_with (go_at_call 35;(with_reducible refine(qee _).mono ?_);rintro e w3 ⟨rfl,rfl⟩)
 go_ret
 exact⟨rfl,rfl⟩
abbrev qjM (n:NdD):List Value:=(LC3 n.sq.left.neg n.sq.left.n n.sq.left.e n.sq.low.neg n.sq.low.n n.sq.low.e n.sq.e)
theorem qlP {P:Program} {fn:Func} {W:World} {tm:Array Value} {t b n:Nat} {T:TypeId} {d:TypeDesc} {vs:List Value} {Q:Ending→World→Prop} (hr:fn.results=#[.cell t T]) (hu:P.underlying T=some d) (hd:(match d with|.struct _|.array _ _=>true|_=>false)=true) (hi:(P.info? T).map (·.size)=some n)
  (h2:tm.getD t undef=.pointer (some ⟨b,0,none⟩)) (hb:Bx W b vs) (hn:vs.length=n) (hq:Q (.returned (.agg vs.toArray)) W):bodyPost P fn Q Exit.ret {tmps:=tm,defers:=[]} W:=by
 refine bodyPost_ret (v:=.agg vs.toArray) ?_ rfl hq;rw[Array.getD_eq_getD_getElem?]at h2;unfold results;rw[hr];simp only[Sem.run_bind];simp[Array.mapM_eq_mapM_toList,h2,qc7 hb hn hu hd hi,asAddr]
theorem qkD (w:World):Calls prog 46 #[.pointer none] w fun en w'=>en=.returned (.agg ZL4.toArray)∧Kept w w':=by
 go_enter func46,ntmps46
 go_upto_region 1 with fail
 obtain⟨b,w1,hw,hb,B0,K1,HB⟩:=qa4 w ZL4 26;rw[←hw,←hb];clear hw hb;go_upto_region 2 with (go_at_call 35;(with_reducible refine(qee _).mono ?_);rintro e w3 ⟨rfl,h3⟩;replace h3:=h3.symm;subst h3)
 refine wp_region_list (wpList_plain rfl fun K hK=>qas ZL4 _ _ rfl (by kernel_rfl) (hK _ _ ?_));clear hK K;refine wpList_plain rfl fun K hK=>qaa (vs:=ZL4) (b:=b) (n:=7) _ _ rfl rfl rfl B0.out rfl rfl (by kernel_rfl) rfl (hK _ _ ?_);clear hK K;have B1:=qh (B0.out.row ZL4);have K2:=qh (Kept.row K1.out HB.out ZL4);generalize World.setRow _ _ _=w9 at *;go_wp2_with fail
 exact qlP results46 underlying26 rfl (by kernel_rfl) rfl B1.out rfl ⟨rfl,K2.out⟩
theorem qkK {w:World} {base p:Nat} {v:Value} {u:RuD} {S:StD} (hM:TrM w base p v u S) (hS:GoodS S):
  Calls prog 46 #[.pointer (some ⟨p,0,none⟩)] w fun en w'=> ∃n,S.L[0]? =some n∧en=.returned (.agg #[.bool n.sq.left.neg,.string n.sq.left.n,.int .i64 n.sq.left.e,.bool n.sq.low.neg,.string n.sq.low.n,.int .i64 n.sq.low.e,.int .i64 n.sq.e])∧Kept w w':=by
 obtain⟨n,hn⟩: ∃n,S.L[0]? =some n:=⟨_,List.getElem?_eq_getElem hS.pos⟩
 have HN:=qh (fun W h=>qdm (w:=W) (hM.kept h) hS);obtain⟨gt,ot,ct,hv,-,hgt,-,hcell,-⟩:=hM.form hS.pos
 have HCL:=qh (fun i y (hi:(qjM n)[i]? =some y)=>show w.cell? ⟨gt,ot+i,none⟩=some y by
  have hy:(ndV n)[i]? =some y:=by
   have:qjM n=(ndV n).take 7:=rfl;rw[this,List.getElem?_take]at hi;split at hi
   ·exact hi
   ·cases hi
  have:=hcell 0 n i y hn hy;simpa using this)
 have p1:=hM.box.c 1 rfl;rw[hv]at p1;have hlt:=hM.box.lt;have hpos:(0:Int)<((S.L.length:Nat):Int):=by have:=hS.pos;omega
 have HP1:=qh p1;have HNN:=qh hn;clear hM hS hcell p1 hn;generalize S.L.length=SN at *;go_enter func46,ntmps46
 go_upto_region 1 with fail
 obtain⟨b,w1,hw,hb,B0,K1,HB⟩:=qa4 w ZL4 26;rw[←hw,←hb];clear hw hb;go_upto_region 3 with (go_at_call 35;(with_reducible refine(HN.out _ K1.out).mono ?_);rintro e w3 ⟨rfl,h3⟩;replace h3:=h3.symm;subst h3)
 have p1:w1.cell? ⟨p,1,none⟩=some (.slice (some ⟨gt,ot,none⟩) SN ct):=(World.cell?_of_block (a:=⟨p,1,none⟩) (K1.out.block p hlt)).trans HP1.out;refine wp_region_list ?_
 iterate 6
  refine wpList_plain rfl fun K hK=>?_;go_step;refine hK _ _ ?_;clear hK K
 refine wpList_plain rfl fun K hK=>qau (vs:=qjM n) (g:=gt) (off:=ot) (n:=7) _ rfl rfl (fun i y hy=>(World.cell?_of_block (a:=⟨gt,ot+i,none⟩) (K1.out.block gt hgt)).trans (HCL.out i y hy)) rfl underlying26 rfl (by kernel_rfl) (hK _ _ ?_);clear hK K;refine wpList_plain rfl fun K hK=>qaa (vs:=qjM n) (b:=b) (n:=7) _ _ rfl rfl rfl B0.out rfl rfl (by kernel_rfl) rfl (hK _ _ ?_);clear hK K;have B1:=qh (B0.out.row (qjM n));have K2:=qh (Kept.row K1.out HB.out (qjM n));generalize World.setRow _ _ _=w9 at *;go_wp2_with fail
 exact qlP results46 underlying26 rfl (by kernel_rfl) rfl B1.out rfl ⟨n,HNN.out,rfl,K2.out⟩
end
section
set_option maxHeartbeats 6400000
set_option maxRecDepth 100000
attribute [local go_sem] Oper.semAt_some
theorem qhN (w:World):Calls prog 88 #[.pointer none] w fun e w'=> ∃B,e=.returned (.func (.func 131) #[] #[.pointer (some ⟨B,0,none⟩)])∧Kept w w'∧w.heap.size≤B∧Bx w' B [.pointer none]:=by
 go_enter func88,ntmps88
 go_wp2
 go_ret
 exact⟨w.heap.size,rfl,(Below.refl _ _).alloc (Nat.le_refl _) _,Nat.le_refl _,Bx.new w [.pointer none] _ _ rfl⟩
theorem qln (w:World):Calls prog 21 #[.pointer none] w fun e w'=> ∃B,e=.returned (.func (.func 52) #[] #[.pointer (some ⟨B,0,none⟩)])∧Kept w w'∧w.heap.size≤B∧Bx w' B [.pointer none]:=by
 go_enter func21,ntmps21
 go_wp2
 go_ret
 exact⟨w.heap.size,rfl,(Below.refl _ _).alloc (Nat.le_refl _) _,Nat.le_refl _,Bx.new w [.pointer none] _ _ rfl⟩
theorem qft (m:Nat) (hm1:1≤m) {w:World} {Bc:Nat} (hb:Bx w Bc [.pointer none]) {encs:Nat→Array Value} {U:World→Nat→Prop}:
  qfF Fence.wide m prog 131 #[.pointer (some ⟨Bc,0,none⟩)] encs U (fun _ _ _=>False) (fun xs=>xs=[]) (fun _=>False) 0 w:=by
 intro l J Jx W hW hJ hJx hlt hY h0;have c0:W.cell? ⟨Bc,0,none⟩=some (.pointer none):=(World.cell?_of_block (a:=⟨Bc,0,none⟩) (hW.block Bc hb.lt)).trans (hb.c 0 rfl);have H0:=qh h0;clear hb hW hJ hJx hlt hY h0;refine callsIn_of_wp func131 rfl trivial ?_ rfl;simp only[ntmps131,List.size_toArray,List.length_cons,List.length_nil,Nat.reduceAdd,Nat.reduceSub,Array.replicate_succ,Array.replicate_zero,List.push_toArray,List.append_toArray,List.nil_append,List.cons_append];gi_wp2
 refine⟨trivial,(callsIn_wide.2 (qee W)).mono ?_⟩;rintro e w1 ⟨rfl,h1⟩;replace h1:=h1.symm;subst h1;gi_wp2
 refine bodyPost_ret (results_none rfl _ _ _) rfl ?_;exact⟨⟨_,rfl⟩,.inl ⟨[],rfl,H0.out⟩⟩
theorem qlt (w:World):Calls prog 53 #[.pointer none] w fun en w'=>en=.returned (.slice none 0 0)∧Kept w w':=by
 refine callsIn_wide.1 (callsIn_of_wp_marks (n:=5) func53 rfl trivial ?_ rfl);simp only[ntmps53,List.size_toArray,List.length_cons,List.length_nil,Nat.reduceAdd,Nat.reduceSub,Array.replicate_succ,Array.replicate_zero,List.push_toArray,List.append_toArray,List.nil_append,List.cons_append];refine wpIn_wide.2 ?_;go_upto_region 2 with fail
 have BL:=qh (Bx.new w [.slice none 0 0] 98 w.heap.size rfl);have K1:=qh (Kept.new (Below.refl _ w) (.cells #[.slice none 0 0] 98));obtain⟨b,hb⟩: ∃b,b=w.heap.size:=⟨_,rfl⟩
 have HB:=qh hb;rw[←hb]at BL⊢;clear hb;generalize w.alloc _=w1 at *;go_wp2_with fail
 refine(qhN _).mono ?_;rintro e w2 ⟨Bc,rfl,hk2,hBc,hbx⟩;have hf1: ∀W,(binOp .eql 166 (.func (.func 131) #[] #[.pointer (some ⟨Bc,0,none⟩)]) .nilFunc).run prog W=.ok (.bool false) W:=fun W=>by kernel_rfl
 go_wp2_with fail
 have HK2:=qh (K1.out.trans' hk2);have HB2:=qh (BL.out.kept hk2);have hB2:=BL.out.kept hk2;have hsz2:=hk2.size;have hbl:=BL.out.lt
 refine(wpIn_wide (n:=5)).1 (qbr (α:=Nat) rfl (by decide) (gf:=131) (lb:=#[.pointer (some ⟨Bc,0,none⟩)]) rfl trivial (enters_of func131 (by kernel_rfl) rfl)
  (qft 4 (by omega) hbx (encs:=encI) (U:=fun _ _=>False))
  ⟨fun _ _ _ _ _ _ _ h=>h,fun _ _ _ _ _ _ _ _ h=>h⟩ (Below.refl _ _) (fun _=>rfl)
  (fun _ W=>Kept w2 W) (fun _ _ _=>False) (fun s A B row h hg hr=>h.grown hg h.size (fun r e=>(hr r e).1)) (fun _ s A B row h _ _=>h.elim) (fun s A B row h hg hr=>h.grown hg h.size (fun r e=>(hr r e).1)) (fun _ s A B row h _ _=>h.elim) (fun _ _ _ _ h=>h.elim)
  (Below.refl _ _) (fun _ _ _=>True) (fun x a' s A B row h _ _=>h) (fun _ _ _ _ _ _ h=>h.elim) (fun _ _ _ _ _ _ _ _ _ h=>absurd h (Nat.not_lt_zero _)) ?done (fun D c pre W _ _ h _=>h.elim))
 case done=>
  rintro D xs W hD rfl hkw hDef;dsimp only;have hc0:=(HB2.out.kept hkw).c 0 rfl;have HKW:=qh hkw;have HD:=qh hDef;have HDL:=qh hD;clear hkw hDef hD hB2 hsz2 hbl hbx hBc hk2;go_wp2_with fail
  refine qbo (lo:=w2.heap.size) _ _ ⟨D,rfl,HDL.out,HD.out,by simp,trivial⟩ (fun W' hb hcc=>?_) (by have:=(Array.getElem?_eq_some_iff.1 HD.out).1;have:=HDL.out;omega);exact⟨.slice none 0 0,by simp[results,f53,go_sem],rfl,(HK2.out.trans' HKW.out).trans (hb.mono HK2.out.size)⟩
theorem qgE (m:Nat) (hm1:1≤m) {w:World} {Bc:Nat} (hb:Bx w Bc [.pointer none]) {encs:Nat→Array Value} {B0:Nat} {U:World→Nat→Prop} (hU:qfO B0 U):
  qfF Fence.wide m prog 52 #[.pointer (some ⟨Bc,0,none⟩)] encs U (fun _ _ _=>False) (fun xs=>xs=[]) (fun _=>False) 0 w:=by
 intro l J Jx W hW hJ hJx hlt hY h0;have c0:W.cell? ⟨Bc,0,none⟩=some (.pointer none):=(World.cell?_of_block (a:=⟨Bc,0,none⟩) (hW.block Bc hb.lt)).trans (hb.c 0 rfl);have HA:=qh (show At W.heap.size U (J []) W W from⟨h0,fun _ h=>h,Nat.le_refl _,hlt _ _ h0⟩);clear hb hW hJx hY h0;refine callsIn_of_wp func52 rfl trivial ?_ rfl;simp only[ntmps52,List.size_toArray,List.length_cons,List.length_nil,Nat.reduceAdd,Nat.reduceSub,Array.replicate_succ,Array.replicate_zero,List.push_toArray,List.append_toArray,List.nil_append,List.cons_append];gi_wp2
 refine⟨trivial,(callsIn_wide.2 (qlt W)).mono ?_⟩;rintro e w1 ⟨rfl,hk1⟩;have HA1:=qh (HA.out.kept hJ hU hlt hk1);clear hk1 c0 HA;gi_wp2_with fail
 gi_loopg [9] 1 (fun gh s9 wr=>s9=.int .i64 0∧J [] wr)
 case atStart=>exact⟨rfl,HA1.out.inv⟩
 case round=>
  obtain⟨rfl,hj⟩:=hrel;have HJ:=qh hj;clear hj HA1;gi_wp2_with fail
  go_end0
  exact⟨⟨_,rfl⟩,.inl ⟨_,rfl,HJ.out⟩⟩
end
end Go.Proofs.YtfdnledkcongaaaGreatDoor
