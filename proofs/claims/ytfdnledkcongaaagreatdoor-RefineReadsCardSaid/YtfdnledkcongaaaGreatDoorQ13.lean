/- Texts of one claim laid together: RdC, RdD, RfM, RfA, RfB, RfC, RfP, RdE, RdF, LkE. -/
import Derived.Test.YtfdnledkcongaaaGreatDoorQ12
import Derived.Deep.MidRow
import Derived.ChangeKeysEq
set_option linter.all false
namespace Go.Proofs.YtfdnledkcongaaaGreatDoor
open Go.RowKit Go.Proofs.Tryz
section
attribute [local go_sem] Oper.semAt_some
theorem qof {c:Code} {P:Program} {Q:Exit→Act→World→Prop} {a:Act} {w:World} (h: ∀A0,A0=a→c.wp P Q A0 w):c.wp P Q a w:=h a rfl
def qfc (Q:Exit→Act→World→Prop):Exit→Act→World→Prop
 |.panic _,_,_=>False
 |e,a,w=>Q e a w
theorem qdn {Q:Exit→Act→World→Prop}: ∀(e:Exit) (a:Act) (w:World),qfc Q e a w→Q e a w:=fun e a w h=>by
 cases e<;>first|exact h.elim|exact h
def qbK (S:StD) (l:List Nat) (t:Nat):Nat:=l.countP fun k=>match S.L[k]? with
 |some n=>n.told==t
 |none=>false
theorem qig {S:StD} {l:List Nat} {k:Nat} {n:NdD} (h:S.L[k]? =some n) (t:Nat):qbK S (l++[k]) t=qbK S l t+if n.told=t then 1 else 0:=by
 unfold qbK;rw[List.countP_append,List.countP_singleton,h];simp
theorem qe3 (S:StD) (l:List Nat) (t:Nat):qbK S l t≤l.length:=List.countP_le_length
theorem qpp {b B:Nat} (hb:b<B):qfO B (fun _ k=>k=b):=⟨fun _ _ _ _ _ _ _ h=>h,fun _ _ _ _ _ _ _ _ h=>h⟩
def qfA (S:StD) (l:List Nat):List Value:=[.int .i64 (qbK S l 0:Nat),.int .i64 (qbK S l 1:Nat),.int .i64 (qbK S l 2:Nat)]
theorem qov {W:World} {b:Nat} {vs:List Value} (h:Bx W b vs) {x:Value} (h0:vs[0]? =some x): ∃o,W.heap[b]? =some o∧o.isCells=true:=cells_of_cell (h.c 0 h0)
theorem Bx.qbz {w W W':World} {b:Nat} {vs:List Value} {row:Option Nat} {x:Value} (h:Bx W b vs) (h0:vs[0]? =some x) (hg:W.grownBy W' row) (hr: ∀r,row=some r→∃o:Obj,W.heap[r]? =some o∧o.isCells=false):Bx W' b vs:=
 h.qbw hg (fun e=>by
  obtain⟨o,ho,hc⟩:=hr b e;obtain⟨o',ho',hc'⟩:=qov h h0;rw[ho]at ho';cases ho';rw[hc]at hc';cases hc')
set_option maxRecDepth 100000 in
set_option maxHeartbeats 6400000 in
theorem qke {w:World} {base p:Nat} {v:Value} {u:RuD} {S:StD} (hM:TrM w base p v u S) (hS:GoodS S) (hW:Whole S):
  Calls prog 44 #[.pointer (some ⟨p,0,none⟩)] w fun en w'=>en=.returned (.tuple #[.int .i64 (qbK S (qak S) 1:Nat),.int .i64 (qbK S (qak S) 2:Nat),.int .i64 (qbK S (qak S) 0:Nat)])∧Kept w w':=by
 have HM:=qh hM;have HS:=qh hS;have HW:=qh hW;have HPL:=qh hM.box.lt;have HVL:=qh (fun k hk=>(hM.own.lt k hk).2);clear hM hS hW;refine callsIn_wide.1 (callsIn_of_wp_marks (n:=5) func44 rfl trivial ?_ rfl);simp only[ntmps44,List.size_toArray,List.length_cons,List.length_nil,Nat.reduceAdd,Nat.reduceSub,Array.replicate_succ,Array.replicate_zero,List.push_toArray,List.append_toArray,List.nil_append,List.cons_append];refine wpIn_wide.2 ?_;refine wp_mono (Q:=qfc _) ?_ qdn;go_upto_region 2 with fail
 obtain⟨b,w1,hw,hb,B0,B1,K1,HB⟩:=qa6 w [.pointer (some ⟨p,0,none⟩)] 38 [.int .i64 0,.int .i64 0,.int .i64 0] 164;rw[←hw,←hb];clear hw hb;have b0:=B0.out.c 0 rfl;go_wp2_with fail
 refine(qga p _).mono ?_;rintro e w2 ⟨Bc,rfl,hk2,hBc,hbx⟩;have hf1: ∀W,(binOp .eql 166 (.func (.func 131) #[] #[.pointer (some ⟨Bc,0,none⟩)]) .nilFunc).run prog W=.ok (.bool false) W:=fun W=>by kernel_rfl
 clear b0;go_wp2_with fail
 refine qof fun A0 hA=>?_;have HA:=qh hA;have hev:A0.eval (.tmp 8)=.func (.func 131) #[] #[.pointer (some ⟨Bc,0,none⟩)]:=by rw[hA];rfl
 have HK2:=qh (K1.out.trans' hk2);have HM2:=qh (HM.out.kept HK2.out);have HB0:=qh (B0.out.kept hk2);have HB1:=qh (B1.out.kept hk2);have HLB:=qh (show b+1<w2.heap.size from HB1.out.lt);have HSZ:=qh HK2.out.size;have HBX:=qh hbx;have HBC:=qh (show b+1<Bc by have:=B1.out.lt;omega);clear hA hk2 hBc hbx
 refine(wpIn_wide (n:=5)).1 (qbr (α:=Nat) rfl (by decide) (gf:=131) (lb:=#[.pointer (some ⟨Bc,0,none⟩)]) hev trivial (enters_of func131 (by kernel_rfl) rfl)
  (qgZ 4 (by omega) HM2.out HS.out HW.out HBX.out (B0:=w2.heap.size) (U:=fun _ k=>k=b+1) (qpp HLB.out) (fun W k hk hu=>by
   have h1:=HB.out;have h2:=HPL.out;have h3:=HBC.out;rcases hk with rfl|rfl|hk
   ·omega
   ·omega
   ·have:=HVL.out _ hk;omega))
  (qpp HLB.out) (Below.refl _ _) (fun _=>rfl)
  (fun pre W=>Kept w W∧Bx W b [.pointer (some ⟨p,0,none⟩)]∧Bx W (b+1) (qfA S pre)∧b+1<W.heap.size) (fun _ _ _=>False)
  (fun s A B row ⟨h1,h2,h3,h4⟩ hg hr=>⟨h1.grown hg h1.size (fun r e=>Nat.le_trans HSZ.out (hr r e).1),h2.qbz (w:=w) rfl hg (fun r e=>(hr r e).2),h3.qbz (w:=w) rfl hg (fun r e=>(hr r e).2),Nat.lt_of_lt_of_le h4 hg.size⟩) (fun _ s A B row h _ _=>h.elim)
  (fun s A B row ⟨h1,h2,h3,h4⟩ hg hr=>⟨h1.grown hg h1.size (fun r e=>Nat.le_trans HSZ.out (hr r e).1),h2.qbw hg (fun e=>by have:=(hr b e).1;have:=HLB.out;omega),h3.qbw hg (fun e=>(hr _ e).2 rfl),Nat.lt_of_lt_of_le h4 hg.size⟩) (fun _ s A B row h _ _=>h.elim)
  (fun pre W h k hk=>by rw[hk];exact h.2.2.2)
  ⟨HK2.out,HB0.out,HB1.out,HLB.out⟩
  (fun k a' _=>(∃n,S.L[k]? =some n)∧a'=⟨(A0.tmps.setIfInBounds 9 (.int .i64 (k:Int))).setIfInBounds 6 (.int .i64 (k:Int)),[]⟩)
  (fun x a' s A B row h _ _=>h) ?assign ?body ?done (fun D c pre W _ _ h _=>h.elim))
 case assign=>
  rintro l pre k W K2 hI ⟨t,ht⟩ hK2;have hkm:k∈qak S:=by rw[ht];simp
  obtain⟨n,hn⟩: ∃n,S.L[k]? =some n:=⟨_,List.getElem?_eq_getElem (qbD HW.out k hkm)⟩
  have HK:=qh hK2;have HI:=qh hI;have HN:=qh hn;have hA:=HA.out;simp only[encI];rw[hA];clear hK2 hI hn hkm ht;gi_wp2_with fail
  refine HK.out _ _ (KeepsFrom.refl _ _) ⟨Nat.le_refl _,fun _ _ h _ _=>h,fun _ h=>.inl h⟩ HI.out ⟨⟨n,HN.out⟩,?_⟩;rw[hA];simp only[List.setIfInBounds_toArray,List.set_cons_zero,List.set_cons_succ]
 case body=>
  rintro l pre k a' W hl ⟨rc,hrc⟩ ⟨hkw,hb0,hb1,hlt⟩ ⟨⟨n,hn⟩,rfl⟩ hlen
  have hlen2:pre.length≤87381:=by
   have h1:=qc HW.out;have h2:=HS.out.len;omega
  have TM:=HM.out.kept hkw;obtain⟨gt,ot,ct,hv,-,hgt,-,hcell,-⟩:=TM.form HS.out.pos;have tc:=hcell k n 7 _ hn rfl;rw[←Nat.add_assoc]at tc;have p1:=TM.box.c 1 rfl;rw[hv]at p1;have hkl:(k:Int)<((S.L.length:Nat):Int):=by have:=(List.getElem?_eq_some_iff.1 hn).1;omega
  have hk0:(0:Int)≤(k:Int):=by omega
  have htd:=(HS.out.nd _ _ hn).told;have hnx:=fun t=>qig hn (l:=pre) t;have HNX:=qh hnx;have hc0:=qe3 S pre 0;have hc1:=qe3 S pre 1;have hc2:=qe3 S pre 2;have b0:=hb0.c 0 rfl;have HKW:=qh hkw;have HB0W:=qh hb0;have HLT:=qh hlt;have hA:=HA.out;rw[hA];simp only[List.setIfInBounds_toArray,List.set_cons_zero,List.set_cons_succ];unfold qfA at hb1;have HLD:=qh (show(Bx W b [.pointer (some ⟨p,0,none⟩)])from hb0);obtain⟨td,htde⟩: ∃td,td=n.told:=⟨_,rfl⟩
  rw[←htde]at tc htd HNX;obtain⟨x0,hx0⟩: ∃x,x=qbK S pre 0:=⟨_,rfl⟩
  obtain⟨x1,hx1⟩: ∃x,x=qbK S pre 1:=⟨_,rfl⟩
  obtain⟨x2,hx2⟩: ∃x,x=qbK S pre 2:=⟨_,rfl⟩
  rw[←hx0]at hb1 hc0;rw[←hx1]at hb1 hc1;rw[←hx2]at hb1 hc2;have HX:Hid (qbK S pre 0=x0∧qbK S pre 1=x1∧qbK S pre 2=x2):=qh ⟨hx0.symm,hx1.symm,hx2.symm⟩;have HB1W:=qh hb1;have e0:IntKind.i64.wrap ((x0:Int)+1)=((x0+1:Nat):Int):=by rw[IntWalk.i64_in _ (by omega)];omega
  have e1:IntKind.i64.wrap ((x1:Int)+1)=((x1+1:Nat):Int):=by rw[IntWalk.i64_in _ (by omega)];omega
  have e2:IntKind.i64.wrap ((x2:Int)+1)=((x2+1:Nat):Int):=by rw[IntWalk.i64_in _ (by omega)];omega
  have y0:=hb1.c 0 rfl;have y1:=hb1.c 1 rfl;have y2:=hb1.c 2 rfl;have f0:=hb1.f 0;have f1:=hb1.f 1;have f2:=hb1.f 2
  have HREL:Hid (∀ (i:Nat) (x:Value) (vs:List Value),vs=qfA S (pre++[k])→Bx (W.setCell ⟨b+1,i,none⟩ x) (b+1) vs→KeepsFrom w2.heap.size W (W.setCell ⟨b+1,i,none⟩ x)∧qef (fun _ k=>k=b+1) W (W.setCell ⟨b+1,i,none⟩ x)∧(Kept w (W.setCell ⟨b+1,i,none⟩ x)∧Bx (W.setCell ⟨b+1,i,none⟩ x) b [.pointer (some ⟨p,0,none⟩)]∧Bx (W.setCell ⟨b+1,i,none⟩ x) (b+1) (qfA S (pre++[k]))∧b+1<(W.setCell ⟨b+1,i,none⟩ x).heap.size)):=by
   refine qh fun i x vs hvs hbx=>⟨(KeepsOthers.setCell W _ _).from _,⟨by simp[World.setCell],fun j o hj _ hu=>?_,fun j hj=>.inl hj⟩,HKW.out.setCell (by have:=HB.out;show w.heap.size≤b+1;omega) _,HB0W.out.far ⟨b+1,i,none⟩ (by show b≠b+1;omega) x,hvs ▸ hbx,by simpa [World.setCell] using HLT.out⟩
   have e:(W.setCell ⟨b+1,i,none⟩ x).heap[j]? =W.heap[j]? :=by
    simp only[World.setCell];rw[Array.getElem?_modify,if_neg (fun e=>hu e.symm)]
   exact e.trans hj
  clear hkw hb0 hlt hrc hl hlen hn TM hcell hv hgt hA hnx hb1 hlen2 hx0 hx1 hx2 htde hc0 hc1 hc2;generalize S.L.length=SN at *;rcases(show td=0∨td=1∨td=2 by omega)with rfl|rfl|rfl
  ·gi_wp2_with fail
   refine HREL.out 0 _ _ ?_ (HB1W.out.set 0 _ (by simp));unfold qfA;rw[HNX.out 0,HNX.out 1,HNX.out 2,HX.out.1,HX.out.2.1,HX.out.2.2];rfl
  ·gi_wp2_with fail
   refine HREL.out 1 _ _ ?_ (HB1W.out.set 1 _ (by simp));unfold qfA;rw[HNX.out 0,HNX.out 1,HNX.out 2,HX.out.1,HX.out.2.1,HX.out.2.2];rfl
  ·gi_wp2_with fail
   refine HREL.out 2 _ _ ?_ (HB1W.out.set 2 _ (by simp));unfold qfA;rw[HNX.out 0,HNX.out 1,HNX.out 2,HX.out.1,HX.out.2.1,HX.out.2.2];rfl
 case done=>
  rintro D xs W hD rfl ⟨hkw,hb0,hb1,hlt⟩ hDef;rw[HA.out];dsimp only;have HKW:=qh hkw;have HDD:=qh hDef;have HDL:=qh hD;have hS0:Bx W.drew (b+1) (qfA S (qak S)):=hb1.kept (Below.refl _ W).drew;unfold qfA at hS0;obtain⟨x0,hx0⟩: ∃x,x=qbK S (qak S) 0:=⟨_,rfl⟩
  rw[←hx0]at hS0;replace hx0:=qh hx0;obtain⟨x1,hx1⟩: ∃x,x=qbK S (qak S) 1:=⟨_,rfl⟩
  rw[←hx1]at hS0;replace hx1:=qh hx1;obtain⟨x2,hx2⟩: ∃x,x=qbK S (qak S) 2:=⟨_,rfl⟩
  rw[←hx2]at hS0;replace hx2:=qh hx2;clear hkw hb0 hb1 hlt hDef hD HA hev;go_upto_region 5 with fail
  refine qbg (fun W=>Bx W (b+1) [.int .i64 (x0:Nat),.int .i64 (x1:Nat),.int .i64 (x2:Nat)]) 8 (by kernel_rfl) ?_ (fun hHeld=>?_)
  ·assumption
  refine wL 0 22 ?_;refine wL 1 23 ?_ (hy:=fun w hSw=>by have y0:=hSw.c 1 rfl;go_simp;(try with_reducible rfl));refine wL 2 24 ?_;refine wL 3 25 ?_ (hy:=fun w hSw=>by have y0:=hSw.c 2 rfl;go_simp;(try with_reducible rfl));refine wL 4 26 ?_;refine wL 5 27 ?_ (hy:=fun w hSw=>by have y0:=hSw.c 0 rfl;go_simp;(try with_reducible rfl));refine wL 6 2 ?_;refine wL 7 3 ?_;refine eL fun K hK=>?_;go_simp;refine hK.out _ _ ?_;clear hK K;try simp only[Act.put,tdy]
  refine dL ?_ _;go_wp2_with fail
  refine qbo (lo:=w2.heap.size) _ _ ⟨D,rfl,HDL.out,HDD.out,by simp,trivial⟩ (fun W' hb hcc=>?_) (by have:=(Array.getElem?_eq_some_iff.1 HDD.out).1;have:=HDL.out;show w2.heap.size≤W.heap.size;omega);exact⟨.tuple #[.int .i64 (x1:Nat),.int .i64 (x2:Nat),.int .i64 (x0:Nat)],by simp[results,f44,go_sem],by rw[hx0.out,hx1.out,hx2.out],(HKW.out.trans' (show Kept W W.drew from(Below.refl _ W).drew)).trans (hb.mono HSZ.out)⟩
end
section
set_option maxHeartbeats 6400000
set_option maxRecDepth 100000
attribute [local go_sem] Oper.semAt_some
theorem qkX (w:World):Calls prog 44 #[.pointer none] w fun en w'=>en=.returned (.tuple #[.int .i64 0,.int .i64 0,.int .i64 0])∧Kept w w':=by
 refine callsIn_wide.1 (callsIn_of_wp_marks (n:=5) func44 rfl trivial ?_ rfl);simp only[ntmps44,List.size_toArray,List.length_cons,List.length_nil,Nat.reduceAdd,Nat.reduceSub,Array.replicate_succ,Array.replicate_zero,List.push_toArray,List.append_toArray,List.nil_append,List.cons_append];refine wpIn_wide.2 ?_;refine wp_mono (Q:=qfc _) ?_ qdn;go_upto_region 2 with fail
 obtain⟨b,w1,hw,hb,B0,B1,K1,HB⟩:=qa6 w [.pointer none] 38 [.int .i64 0,.int .i64 0,.int .i64 0] 164;rw[←hw,←hb];clear hw hb;have b0:=B0.out.c 0 rfl;go_wp2_with fail
 refine(qhN _).mono ?_;rintro e w2 ⟨Bc,rfl,hk2,hBc,hbx⟩;have hf1: ∀W,(binOp .eql 166 (.func (.func 131) #[] #[.pointer (some ⟨Bc,0,none⟩)]) .nilFunc).run prog W=.ok (.bool false) W:=fun W=>by kernel_rfl
 clear b0;go_wp2_with fail
 have HK2:=qh (K1.out.trans' hk2);have HB1:=qh (B1.out.kept hk2);have HSZ:=qh HK2.out.size;have HBX:=qh hbx;clear hk2 hBc hbx
 refine(wpIn_wide (n:=5)).1 (qbr (α:=Nat) rfl (by decide) (gf:=131) (lb:=#[.pointer (some ⟨Bc,0,none⟩)]) rfl trivial (enters_of func131 (by kernel_rfl) rfl)
  (qft 4 (by omega) HBX.out (encs:=encI) (U:=fun _ _=>False))
  ⟨fun _ _ _ _ _ _ _ h=>h,fun _ _ _ _ _ _ _ _ h=>h⟩ (Below.refl _ _) (fun _=>rfl)
  (fun _ W=>Kept w2 W) (fun _ _ _=>False) (fun s A B row h hg hr=>h.grown hg h.size (fun r e=>(hr r e).1)) (fun _ s A B row h _ _=>h.elim) (fun s A B row h hg hr=>h.grown hg h.size (fun r e=>(hr r e).1)) (fun _ s A B row h _ _=>h.elim) (fun _ _ _ _ h=>h.elim)
  (Below.refl _ _) (fun _ _ _=>True) (fun x a' s A B row h _ _=>h) (fun _ _ _ _ _ _ h=>h.elim) (fun _ _ _ _ _ _ _ _ _ h=>absurd h (Nat.not_lt_zero _)) ?done (fun D c pre W _ _ h _=>h.elim))
 case done=>
  rintro D xs W hD rfl hkw hDef;dsimp only;have HKW:=qh hkw;have HDD:=qh hDef;have HDL:=qh hD;have hS0:Bx W.drew (b+1) [.int .i64 0,.int .i64 0,.int .i64 0]:=(HB1.out.kept hkw).kept (Below.refl _ W).drew;clear hkw hDef hD;go_upto_region 5 with fail
  refine qbg (fun W=>Bx W (b+1) [.int .i64 0,.int .i64 0,.int .i64 0]) 8 (by kernel_rfl) ?_ (fun hHeld=>?_)
  ·assumption
  refine wL 0 22 ?_;refine wL 1 23 ?_ (hy:=fun w hSw=>by have y0:=hSw.c 1 rfl;go_simp;(try with_reducible rfl));refine wL 2 24 ?_;refine wL 3 25 ?_ (hy:=fun w hSw=>by have y0:=hSw.c 2 rfl;go_simp;(try with_reducible rfl));refine wL 4 26 ?_;refine wL 5 27 ?_ (hy:=fun w hSw=>by have y0:=hSw.c 0 rfl;go_simp;(try with_reducible rfl));refine wL 6 2 ?_;refine wL 7 3 ?_;refine eL fun K hK=>?_;go_simp;refine hK.out _ _ ?_;clear hK K;try simp only[Act.put,tdy]
  refine dL ?_ _;go_wp2_with fail
  refine qbo (lo:=w2.heap.size) _ _ ⟨D,rfl,HDL.out,HDD.out,by simp,trivial⟩ (fun W' hb hcc=>?_) (by have:=(Array.getElem?_eq_some_iff.1 HDD.out).1;have:=HDL.out;show w2.heap.size≤W.heap.size;omega);exact⟨.tuple #[.int .i64 0,.int .i64 0,.int .i64 0],by simp[results,f44,go_sem],rfl,((HK2.out.trans' HKW.out).trans' (show Kept W W.drew from(Below.refl _ W).drew)).trans (hb.mono HSZ.out)⟩
theorem Bx.stay {W W':World} {b:Nat} {vs:List Value} (h:Bx W b vs) (hcc: ∀(k:Nat) (o:Obj),W.heap[k]? =some o→o.isCells=true→W'.heap[k]? =some o):Bx W' b vs:=by
 obtain⟨t,h⟩:=h;exact⟨t,hcc _ _ h rfl⟩
theorem qfh {W:World} {b:Nat} {x:Value} (h:W.cell? ⟨b,0,none⟩=some x):(loadVar 39 ⟨b,0,none⟩).run prog W=.ok x W:=by
 simp[loadVar,isAgg,go_sem,h]
theorem qeh {P:Program} {fn:Func} {W:World} {tm:Array Value} {t1 t2 t3 t4 b1 b2 b3 b4 n:Nat} {T E:TypeId} {d:TypeDesc} {xs ys zs:List Value} {x:Value} (hr:fn.results=#[.cell t1 T,.cell t2 T,.cell t3 T,.cell t4 E]) (hu:P.underlying T=some d) (hd:(match d with|.struct _|.array _ _=>true|_=>false)=true) (hi:(P.info? T).map (·.size)=some n)
  (h1:tm.getD t1 undef=.pointer (some ⟨b1,0,none⟩)) (h2:tm.getD t2 undef=.pointer (some ⟨b2,0,none⟩)) (h3:tm.getD t3 undef=.pointer (some ⟨b3,0,none⟩)) (h4:tm.getD t4 undef=.pointer (some ⟨b4,0,none⟩))
  (c1:Bx W b1 xs) (c2:Bx W b2 ys) (c3:Bx W b3 zs) (hl:(loadVar E ⟨b4,0,none⟩).run P W=.ok x W) (n1:xs.length=n) (n2:ys.length=n) (n3:zs.length=n):(results fn tm).run P W=.ok (.tuple #[.agg xs.toArray,.agg ys.toArray,.agg zs.toArray,x]) W:=by
 rw[Array.getD_eq_getD_getElem?]at h1 h2 h3 h4;unfold results;rw[hr];simp only[Sem.run_bind];simp[Array.mapM_eq_mapM_toList,h1,h2,h3,h4,qc7 c1 n1 hu hd hi,qc7 c2 n2 hu hd hi,qc7 c3 n3 hu hd hi,hl,asAddr]
theorem qme (w:World):Calls prog 45 #[.pointer none] w fun en w'=>en=.returned (.tuple #[.agg #[.bool false,.string ⟨#[]⟩,.int .i64 0],.agg #[.bool false,.string ⟨#[]⟩,.int .i64 0],.agg #[.bool false,.string ⟨#[]⟩,.int .i64 0],.int .i64 1])∧Kept w w':=by
 refine callsIn_wide.1 (callsIn_of_wp_marks (n:=5) func45 rfl trivial ?_ rfl);simp only[ntmps45,List.size_toArray,List.length_cons,List.length_nil,Nat.reduceAdd,Nat.reduceSub,Array.replicate_succ,Array.replicate_zero,List.push_toArray,List.append_toArray,List.nil_append,List.cons_append];refine wpIn_wide.2 ?_;refine wp_mono (Q:=qfc _) ?_ qdn;go_upto_region 1 with fail
 obtain⟨b,w1,hw,hb,B0,B1,B2,B3,B4,K1,HB⟩:=qpI w [.pointer none] 38 (LC0 false ⟨#[]⟩ 0) 24 (LC0 false ⟨#[]⟩ 0) 24 (LC0 false ⟨#[]⟩ 0) 24 [.int .i64 0] 39;rw[←hw,←hb];clear hw hb;have b0:=B0.out.c 0 rfl;go_upto_region 2 with (go_at_call 35;(with_reducible refine(qee _).mono ?_);rintro e w3 ⟨rfl,h3⟩;replace h3:=h3.symm;subst h3)
 refine wp_region_list ?_
 iterate 3
  refine wpList_plain rfl fun K hK=>qas (LC0 false ⟨#[]⟩ 0) _ _ rfl (by kernel_rfl) (hK _ _ ?_);clear hK K
 refine wpList_plain rfl fun K hK=>qaa (vs:=(LC0 false ⟨#[]⟩ 0)) (b:=b+1) (n:=3) _ _ rfl rfl rfl B1.out rfl rfl (by kernel_rfl) rfl (hK _ _ ?_);clear hK K;have K2:=qh (Kept.row K1.out (show w.heap.size≤b+1 by have:=HB.out;omega) (LC0 false ⟨#[]⟩ 0));replace B1:=qh (B1.out.row (LC0 false ⟨#[]⟩ 0));replace B2:=qh (B2.out.off (g:=b+1) (by omega) (LC0 false ⟨#[]⟩ 0));replace B3:=qh (B3.out.off (g:=b+1) (by omega) (LC0 false ⟨#[]⟩ 0));replace B4:=qh (B4.out.off (g:=b+1) (by omega) (LC0 false ⟨#[]⟩ 0));generalize World.setRow _ _ _=w2 at *;refine wpList_plain rfl fun K hK=>qaa (vs:=(LC0 false ⟨#[]⟩ 0)) (b:=b+2) (n:=3) _ _ rfl rfl rfl B2.out rfl rfl (by kernel_rfl) rfl (hK _ _ ?_);clear hK K;have K3:=qh (Kept.row K2.out (show w.heap.size≤b+2 by have:=HB.out;omega) (LC0 false ⟨#[]⟩ 0));replace B2:=qh (B2.out.row (LC0 false ⟨#[]⟩ 0));replace B1:=qh (B1.out.off (g:=b+2) (by omega) (LC0 false ⟨#[]⟩ 0));replace B3:=qh (B3.out.off (g:=b+2) (by omega) (LC0 false ⟨#[]⟩ 0));replace B4:=qh (B4.out.off (g:=b+2) (by omega) (LC0 false ⟨#[]⟩ 0));generalize World.setRow _ _ _=w3 at *;refine wpList_plain rfl fun K hK=>qaa (vs:=(LC0 false ⟨#[]⟩ 0)) (b:=b+3) (n:=3) _ _ rfl rfl rfl B3.out rfl rfl (by kernel_rfl) rfl (hK _ _ ?_);clear hK K;have K4:=qh (Kept.row K3.out (show w.heap.size≤b+3 by have:=HB.out;omega) (LC0 false ⟨#[]⟩ 0));replace B3:=qh (B3.out.row (LC0 false ⟨#[]⟩ 0));replace B1:=qh (B1.out.off (g:=b+3) (by omega) (LC0 false ⟨#[]⟩ 0));replace B2:=qh (B2.out.off (g:=b+3) (by omega) (LC0 false ⟨#[]⟩ 0));replace B4:=qh (B4.out.off (g:=b+3) (by omega) (LC0 false ⟨#[]⟩ 0));generalize World.setRow _ _ _=w4 at *;have rc:=B4.out.c 0 rfl;have rf:=B4.out.f 0;go_wp2_with fail
 have HE:=qh (B4.out.set 0 (.int .i64 1) (by simp));have HK5:=qh (K4.out.setCell (p:=⟨b+4,0,none⟩) (show w.heap.size≤b+4 by have:=HB.out;omega) (.int .i64 1));show LeavesInM _ _ _ _ _ _ _ _ _;refine qbo (lo:=w.heap.size) [] _ trivial (fun W' hb hcc=>?_) HK5.out.size;have h1:=(B1.out.far ⟨b+4,0,none⟩ (by show b+1≠b+4;omega) (.int .i64 1)).stay hcc;have h2:=(B2.out.far ⟨b+4,0,none⟩ (by show b+2≠b+4;omega) (.int .i64 1)).stay hcc;have h3:=(B3.out.far ⟨b+4,0,none⟩ (by show b+3≠b+4;omega) (.int .i64 1)).stay hcc;have h4:=(HE.out.stay hcc).c 0 rfl;exact⟨_,qeh results45 underlying24 rfl (by kernel_rfl) rfl rfl rfl rfl h1 h2 h3 (qfh h4) rfl rfl rfl,rfl,HK5.out.trans (hb.mono (Nat.le_refl _))⟩
end
section
structure NdR where
 sq:SqD
 depth:Nat
 told:Nat
 par:Bool
 k0:Nat
 k1:Nat
 k2:Nat
 k3:Nat
def NdR.toD (n:NdR):NdD:=⟨n.sq,n.told,n.depth,if n.par=true then some (n.k0,n.k1,n.k2,n.k3)else none⟩
def rdV (n:NdR):List Value:=[.bool n.sq.left.neg,.string n.sq.left.n,.int .i64 n.sq.left.e,.bool n.sq.low.neg,.string n.sq.low.n,.int .i64 n.sq.low.e,.int .i64 n.sq.e,.int .i64 (n.depth:Int),.int .u8 (n.told:Int),.bool n.par,.int .i64 (n.k0:Int),.int .i64 (n.k1:Int),.int .i64 (n.k2:Int),.int .i64 (n.k3:Int)]
def qd2 :List NdR→List Value
 |[]=>[]
 |n::l=>rdV n++qd2 l
theorem qcI (n:NdR):(rdV n).length=14:=rfl
theorem qgx : ∀l m:List NdR,qd2 (l++m)=qd2 l++qd2 m
 |[],m=>rfl
 |n::l,m=>by simp only[List.cons_append,qd2,qgx l m,List.append_assoc]
theorem qhy : ∀(l:List NdR) (k:Nat) (n:NdR) (i:Nat),l[k]? =some n→i<14→(qd2 l)[k*14+i]? =(rdV n)[i]?
 |[],k,n,i,h,_=>by simp at h
 |x::l,0,n,i,h,hi=>by
  have:x=n:=by simpa using h
  subst this;simp only[qd2,Nat.zero_mul,Nat.zero_add];rw[List.getElem?_append_left (by rw[qcI];exact hi)]
 |x::l,k+1,n,i,h,hi=>by
  have e:(k+1)*14+i=14+(k*14+i):=by omega
  simp only[qd2];rw[e,List.getElem?_append_right (by rw[qcI];omega),qcI,Nat.add_sub_cancel_left];exact qhy l k n i (by simpa using h) hi
theorem qj6 (n:NdR):qd2 [n]=rdV n:=by simp[qd2]
theorem qjL (n:NdR):(rdV n).all Value.oneCell'=true:=rfl
theorem qiP (l:List NdR): ∀u∈qd2 l,u.oneCell'=true:=by
 induction l with
 |nil=>intro u h;cases h
 |cons n l ih=>
  intro u h;rcases List.mem_append.1 h with h|h
  ·exact List.all_eq_true.1 (qjL n) u h
  ·exact ih u h
theorem qgW : ∀(l:List NdR) (k:Nat) (n m:NdR) (i:Nat) (x:Value),l[k]? =some n→i<14→(rdV n).set i x=rdV m→(qd2 l).set (k*14+i) x=qd2 (l.set k m)
 |[],k,n,m,i,x,h,_,_=>by simp at h
 |y::l,0,n,m,i,x,h,hi,hm=>by
  have:y=n:=by simpa using h
  subst this;simp only[qd2,Nat.zero_mul,Nat.zero_add,List.set_cons_zero];rw[List.set_append_left _ _ (by rw[qcI];exact hi),hm]
 |y::l,k+1,n,m,i,x,h,hi,hm=>by
  have e:(k+1)*14+i=14+(k*14+i):=by omega
  simp only[qd2,List.set_cons_succ];rw[e,List.set_append_right _ _ (by rw[qcI];omega),qcI,Nat.add_sub_cancel_left,qgW l k n m i x (by simpa using h) hi hm]
structure RfM (W:World) (base p:Nat) (v:Value) (u:RuD) (L:List NdR):Prop where
 box:Bx W p (ruL u++[v])
 own:Own W base 14 v L.length (qd2 L)
 ge:base≤p
 off: ∀k,v.ownBlock=some k→k≠p
section
variable {W W' : World} {base p : Nat} {v : Value} {u : RuD} {L : List NdR}
theorem RfM.kept (h:RfM W base p v u L) (hk:Kept W W'):RfM W' base p v u L:=⟨h.box.kept hk,h.own.kept hk,h.ge,h.off⟩
theorem RfM.form (h:RfM W base p v u L) (hp:0<L.length): ∃g off c,v=.slice (some ⟨g,off,none⟩) L.length c∧base≤g∧g<W.heap.size∧g≠p∧(∀ (k:Nat) (n:NdR) (i:Nat) (x:Value),L[k]? =some n→(rdV n)[i]? =some x→W.cell? ⟨g,off+(k*14+i),none⟩=some x)∧(∀k i,k<L.length→i<14→W.frozen? ⟨g,off+(k*14+i),none⟩=false):=by
 rcases h.own.2 with ⟨_,h0⟩|⟨g,off,cap,hv,hb,hg,hnc,hcm,hx,hc⟩
 ·omega
 ·refine⟨g,off,cap,hv,hb,hg,h.off g (by rw[hv];rfl),fun k n i x hk hi=>?_,fun k i hk hi=>?_⟩
  ·have h13:i<14:=(List.getElem?_eq_some_iff.1 hi).1
   exact hx _ _ ((qhy L k n i hk h13).trans hi)
  ·have:L.length*14≤cap*14:=Nat.mul_le_mul_right _ hnc
   exact(hc _ (by omega)).2
end
def qhG (L:List NdR):Nat:=L.countP fun n=> !n.par
def stR (L:List NdR):StD:=⟨L.map NdR.toD,(3*L.length+1) / 4⟩
structure qck (L:List NdR):Prop where
 good:GoodS (stR L)
 whole:Whole (stR L)
theorem qck.len {L:List NdR} (h:qck L):L.length≤87381:=by have:=h.good.len;simpa [stR] using this
theorem qck.pos {L:List NdR} (h:qck L):0<L.length:=by have:=h.good.pos;simpa [stR] using this
theorem qdN {L:List NdR} {k:Nat} {n:NdR} (h:L[k]? =some n):(stR L).L[k]? =some n.toD:=by simp[stR,h]
theorem qeK {n:NdR}:n.toD.kids.isNone= !n.par:=by unfold NdR.toD;cases n.par<;>rfl
theorem qcd : ∀t:TrT,4*t.leaves.length=3*t.size+1
 |.leaf _ _ _=>rfl
 |.node _ _ a b c e=>by
  have:=qcd a;have:=qcd b;have:=qcd c;have:=qcd e;simp only[TrT.leaves,TrT.size,List.length_append];omega
theorem qaz.qkP {L:List NdD} {k:Nat} {t:TrT} {P:List Nat} (h:qaz L k t P):(P.filter (qa9 L)).length=t.leaves.length:=by
 induction h with
 |leaf k n h1 h2=>simp[qa9,h1,h2,TrT.leaves]
 |node k n p q r s a b c e P Q R S h1 h2 _ _ _ _ i1 i2 i3 i4=>simp[qa9,h1,h2,TrT.leaves,List.filter_append,i1,i2,i3,i4]
theorem qfX {α:Type} (f:α→Bool): ∀(L:List α),((List.range L.length).filter fun k=>(L[k]?).any f).length=L.countP f
 |[]=>rfl
 |x::l=>by
  rw[List.length_cons,List.range_succ_eq_map,List.filter_cons,List.countP_cons,←qfX f l];simp only[List.getElem?_cons_zero,List.filter_map,List.length_map]
  have e:((fun k=>((x::l)[k]?).any f) ∘ Nat.succ)=fun k=>(l[k]?).any f:=by
   funext k;simp[Function.comp]
  rw[e];simp only[Option.any_some];split<;>simp_all
theorem Whole.leaves {S:StD} (h:Whole S):S.L.countP (fun n=>n.kids.isNone)=S.n:=by
 obtain⟨T,h1,h2⟩:=h.pre;have h3:=h1.qkP;have h4:=qcd T;have h5:T.size=S.L.length:=by rw[←h1.size,h2.length_eq,List.length_range]
 have h6:((qdY S.L S.L.length 0).filter (qa9 S.L)).length=S.L.countP (fun n=>n.kids.isNone):=by
  rw[(h2.filter _).length_eq];rw[show qa9 S.L=(fun k=>(S.L[k]?).any fun n=>n.kids.isNone)from by funext k;unfold qa9;cases S.L[k]? <;>rfl];exact qfX (fun n:NdD=>n.kids.isNone) S.L
 have:=h.count;omega
theorem qck.cnt {L:List NdR} (h:qck L):qhG L=(stR L).n:=by
 rw[←h.whole.leaves];unfold qhG stR;simp only[List.countP_map];congr 1
 funext n
 simp[Function.comp,qeK]
theorem qck.count {L:List NdR} (h:qck L):4*qhG L=3*L.length+1:=by
 rw[h.cnt];have:=h.good.count;simpa [stR] using this
end
section
set_option maxHeartbeats 3200000
set_option maxRecDepth 100000
theorem qkW {w:World} {base p:Nat} {v:Value} {u:RuD} {L:List NdR} (hM:RfM w base p v u L) (hS:qck L):
  Calls prog 43 #[.pointer (some ⟨p,0,none⟩)] w fun en w'=>en=.returned (.int .i64 (qhG L:Nat))∧Kept w w':=by
 obtain⟨gt,ot,ct,rfl,-,hgt,-,hcell,-⟩:=hM.form hS.pos;have HBX:=qh hM.box;have HLN:=qh hS.len;obtain⟨LN,hLN⟩: ∃LN,LN=L.length:=⟨_,rfl⟩
 have HN:=qh hLN;rw[←hLN]at HBX HLN;have HCL:=qh hcell;have HGT:=qh hgt;have HD0:=qh (show 0+(L.drop 0).countP (fun n=> !n.par)=qhG L by simp[qhG]);generalize qhG L=DD at *;clear hM hS hLN hcell hgt;have p1:=HBX.out.c 12 rfl;go_enter func43,ntmps43
 go_wp2_with fail
 go_loopg [3,4] LN (fun gh v3 v4 wr=> ∃j d:Nat,j+gh=LN∧v3=.int .i64 (d:Int)∧v4=.int .i64 (j:Int)∧d+(L.drop j).countP (fun n=> !n.par)=DD∧d≤j∧Kept w wr)
 case atStart=>exact⟨0,0,by omega,rfl,rfl,HD0.out,by omega,Below.refl _ _⟩
 case round=>
  obtain⟨j,d,hjg,rfl,rfl,hd,hd4,hk⟩:=hrel;have HK:=qh hk;have HD:=qh hd;have q1:=(HBX.out.kept hk).c 12 rfl;clear hk hd;cases gk with
  |zero=>
   obtain rfl:j=LN:=by omega
   have he:=HD.out;rw[HN.out,List.drop_length]at he;simp only[List.countP_nil,Nat.add_zero]at he;subst he;go_wp2_with fail
   go_ret
   exact⟨rfl,HK.out⟩
  |succ gj=>
   obtain⟨n,hn⟩: ∃n,L[j]? =some n:=⟨_,List.getElem?_eq_getElem (by have:=HN.out;omega)⟩
   have hjN:(j:Int)<(LN:Int):=by omega
   have hj0:(0:Int)≤(j:Int):=by omega
   have ewj:IntKind.i64.wrap ((j:Int)+1)=((j+1:Nat):Int):=by have:=HLN.out;rw[IntWalk.i64_in _ (by omega)];omega
   have ewd:IntKind.i64.wrap ((d:Int)+1)=((d+1:Nat):Int):=by have:=HLN.out;rw[IntWalk.i64_in _ (by omega)];omega
   have hc9:=(HK.out.cells gt (ot+j*14+9) HGT.out).trans (show w.cell? ⟨gt,ot+j*14+9,none⟩=some (.bool n.par) by rw[Nat.add_assoc];exact HCL.out j n 9 _ hn rfl);have he:=HD.out;rw[List.drop_eq_getElem_cons (show j<L.length by have:=HN.out;omega),(List.getElem?_eq_some_iff.1 hn).2,List.countP_cons]at he;obtain⟨b,hb⟩: ∃b,b=n.par:=⟨_,rfl⟩
   rw[←hb]at hc9 he;clear hn HD hb;cases b with
   |false=>
    simp only[Bool.not_false,if_true]at he;have HE:=qh (show(d+1)+(L.drop (j+1)).countP (fun n=> !n.par)=DD by omega);clear he;go_wp2_with fail
    go_roundg gj
    case measure=>omega
    case rel=>exact⟨j+1,d+1,by omega,by go_num,by go_num,HE.out,by omega,HK.out⟩
   |true=>
    simp only[Bool.not_true,Bool.false_eq_true,if_false,Nat.add_zero]at he;have HE:=qh he;clear he;go_wp2_with fail
    go_roundg gj
    case measure=>omega
    case rel=>exact⟨j+1,d,by omega,rfl,by go_num,HE.out,by omega,HK.out⟩
def qou (L:List NdR):Nat:=(L.map NdR.depth).foldl max 0
theorem qk7 {w:World} {base p:Nat} {v:Value} {u:RuD} {L:List NdR} (hM:RfM w base p v u L) (hS:qck L):
  Calls prog 49 #[.pointer (some ⟨p,0,none⟩)] w fun en w'=>en=.returned (.int .i64 (qou L:Nat))∧Kept w w':=by
 obtain⟨gt,ot,ct,rfl,-,hgt,-,hcell,-⟩:=hM.form hS.pos;have HBX:=qh hM.box;have HLN:=qh hS.len;have HDE:=qh (fun j n (hn:L[j]? =some n)=>(hS.good.nd j n.toD (qdN hn)).depth);obtain⟨LN,hLN⟩: ∃LN,LN=L.length:=⟨_,rfl⟩
 have HN:=qh hLN;rw[←hLN]at HBX HLN;have HCL:=qh hcell;have HGT:=qh hgt;have HD0:=qh (show((L.drop 0).map NdR.depth).foldl max 0=qou L from rfl);generalize qou L=DD at *;clear hM hS hLN hcell hgt;have p1:=HBX.out.c 12 rfl;go_enter func49,ntmps49
 go_wp2_with fail
 go_loopg [3,4] LN (fun gh v3 v4 wr=> ∃j d:Nat,j+gh=LN∧v3=.int .i64 (d:Int)∧v4=.int .i64 (j:Int)∧((L.drop j).map NdR.depth).foldl max d=DD∧d≤40∧Kept w wr)
 case atStart=>exact⟨0,0,by omega,rfl,rfl,HD0.out,by omega,Below.refl _ _⟩
 case round=>
  obtain⟨j,d,hjg,rfl,rfl,hd,hd4,hk⟩:=hrel;have HK:=qh hk;have HD:=qh hd;have q1:=(HBX.out.kept hk).c 12 rfl;clear hk hd;cases gk with
  |zero=>
   obtain rfl:j=LN:=by omega
   have he:=HD.out;rw[HN.out,List.drop_length]at he;simp only[List.map_nil,List.foldl_nil]at he;subst he;go_wp2_with fail
   go_ret
   exact⟨rfl,HK.out⟩
  |succ gj=>
   obtain⟨n,hn⟩: ∃n,L[j]? =some n:=⟨_,List.getElem?_eq_getElem (by have:=HN.out;omega)⟩
   have hjN:(j:Int)<(LN:Int):=by omega
   have hj0:(0:Int)≤(j:Int):=by omega
   have ewj:IntKind.i64.wrap ((j:Int)+1)=((j+1:Nat):Int):=by have:=HLN.out;rw[IntWalk.i64_in _ (by omega)];omega
   have hc7:=(HK.out.cells gt (ot+j*14+7) HGT.out).trans (show w.cell? ⟨gt,ot+j*14+7,none⟩=some (.int .i64 (n.depth:Int)) by rw[Nat.add_assoc];exact HCL.out j n 7 _ hn rfl);have hnd:=HDE.out j n hn;have he:=HD.out;rw[List.drop_eq_getElem_cons (show j<L.length by have:=HN.out;omega),(List.getElem?_eq_some_iff.1 hn).2]at he;simp only[List.map_cons,List.foldl_cons]at he;simp only[NdR.toD]at hnd;obtain⟨dd,hdd⟩: ∃dd,dd=n.depth:=⟨_,rfl⟩
   rw[←hdd]at hc7 he hnd;have HE:=qh he;clear hn HD hdd he;go_wp2_with fail
   go_roundg gj
   case measure=>omega
   case rel=>exact⟨j+1,max d dd,by omega,by congr 1;omega,by go_num,HE.out,by omega,HK.out⟩
end
section
set_option maxHeartbeats 6400000
set_option maxRecDepth 100000
theorem qmr (l:List Nat): ∀u∈qay l,u.oneCell'=true:=by
 intro u hu;obtain⟨x,-,rfl⟩:=List.mem_map.1 hu;rfl
def qcQ (F:List Nat) (w:World) (en:Ending) (w':World):Prop:= ∃x,en=.returned x∧Own w' w.heap.size 1 x F.length (qay F)∧Kept w w'
theorem qkh {w:World} {base p:Nat} {v:Value} {u:RuD} {L:List NdR} {k:Nat} {n:NdR} (hM:RfM w base p v u L) (hk:L[k]? =some n) (hn:n.par=false):
  Calls prog 93 #[.pointer (some ⟨p,0,none⟩),.int .i64 (k:Int)] w (qcQ [k] w):=by
 have hl:=(List.getElem?_eq_some_iff.1 hk).1;obtain⟨gt,ot,ct,rfl,-,hgt,-,hcell,-⟩:=hM.form (by omega);have p1:=hM.box.c 12 rfl;have hc9:w.cell? ⟨gt,ot+k*14+9,none⟩=some (.bool false):=by rw[Nat.add_assoc,←hn];exact hcell k n 9 _ hk rfl
 have hkl:(k:Int)<((L.length:Nat):Int):=by omega
 have hk0:(0:Int)≤(k:Int):=by omega
 generalize L.length=LN at *;clear hM hk hn hl hcell;go_enter func93,ntmps93
 go_wp2_with fail
 go_ret
 exact⟨_,rfl,Own.new w #[.int .i64 (k:Int)] 3 (0,0) 1 1 [.int .i64 (k:Int)] w.heap.size w.heap.size rfl (Nat.le_refl _) (by decide) rfl rfl (.inr rfl),Kept.new (Below.refl _ w) _⟩
theorem qki {w:World} {base p:Nat} {v:Value} {u:RuD} {L:List NdR} {k:Nat} {n:NdR} (hM:RfM w base p v u L) (hk:L[k]? =some n) (hn:n.par=true) {F0 F1 F2 F3:List Nat} (hF:F0.length+F1.length+F2.length+F3.length≤87381)
  (i0: ∀W,Kept w W→Calls prog 93 #[.pointer (some ⟨p,0,none⟩),.int .i64 (n.k0:Int)] W (qcQ F0 W))
  (i1: ∀W,Kept w W→Calls prog 93 #[.pointer (some ⟨p,0,none⟩),.int .i64 (n.k1:Int)] W (qcQ F1 W))
  (i2: ∀W,Kept w W→Calls prog 93 #[.pointer (some ⟨p,0,none⟩),.int .i64 (n.k2:Int)] W (qcQ F2 W))
  (i3: ∀W,Kept w W→Calls prog 93 #[.pointer (some ⟨p,0,none⟩),.int .i64 (n.k3:Int)] W (qcQ F3 W)):
  Calls prog 93 #[.pointer (some ⟨p,0,none⟩),.int .i64 (k:Int)] w (qcQ (F0++(F1++(F2++F3))) w):=by
 have hl:=(List.getElem?_eq_some_iff.1 hk).1;obtain⟨gt,ot,ct,rfl,-,hgt,-,hcell,-⟩:=hM.form (by omega);have HBX:=qh hM.box;have hc9:w.cell? ⟨gt,ot+k*14+9,none⟩=some (.bool true):=by rw[Nat.add_assoc,←hn];exact hcell k n 9 _ hk rfl
 have hkl:(k:Int)<((L.length:Nat):Int):=by omega
 have hk0:(0:Int)≤(k:Int):=by omega
 have HKD:Hid (∀j:Nat,j<4→∃(x:Nat) (F:List Nat),(∀W,Kept w W→W.cell? ⟨gt,ot+k*14+10+j,none⟩=some (.int .i64 (x:Int)))∧([F0,F1,F2,F3].take (j+1)).flatten=([F0,F1,F2,F3].take j).flatten++F∧((([F0,F1,F2,F3].take j).flatten++F).length≤87381)∧
   ∀W,Kept w W→Calls prog 93 #[.pointer (some ⟨p,0,none⟩),.int .i64 (x:Int)] W (qcQ F W)):=by
  have hc: ∀(i:Nat) (x:Value),(rdV n)[10+i]? =some x→∀W,Kept w W→W.cell? ⟨gt,ot+k*14+10+i,none⟩=some x:=fun i x hx W hW=>by
   rw[Nat.add_assoc,Nat.add_assoc];exact(hW.cells _ _ hgt).trans (hcell k n (10+i) x hk hx)
  refine qh fun j hj=>?_;rcases(show j=0∨j=1∨j=2∨j=3 by omega)with rfl|rfl|rfl|rfl
  ·exact⟨n.k0,F0,hc 0 _ rfl,by simp,by simp;omega,i0⟩
  ·exact⟨n.k1,F1,hc 1 _ rfl,by simp,by simp;omega,i1⟩
  ·exact⟨n.k2,F2,hc 2 _ rfl,by simp,by simp;omega,i2⟩
  ·exact⟨n.k3,F3,hc 3 _ rfl,by simp,by simp;omega,i3⟩
 have HFF:Hid (([F0,F1,F2,F3].take 4).flatten=F0++(F1++(F2++F3))):=by simp;exact qh trivial
 generalize L.length=LN at *;have p1:=HBX.out.c 12 rfl;clear hM hk hn hl hcell i0 i1 i2 i3 hF;generalize F0++(F1++(F2++F3))=FF at *;generalize [F0,F1,F2,F3]=FL at *;go_enter func93,ntmps93
 go_wp2_with fail
 clear p1 hc9;go_loopg [5,6] 4 (fun gh v5 v6 wr=> ∃(j:Nat) (vq:Value),j+gh=4∧v5=vq∧v6=.int .i64 (j:Int)∧Own wr w.heap.size 1 vq (FL.take j).flatten.length (qay (FL.take j).flatten)∧Kept w wr)
 case atStart=>exact⟨0,_,rfl,rfl,rfl,Own.nil _ _ _,Below.refl _ _⟩
 case round=>
  obtain⟨j,vq,hjg,rfl,rfl,ho,hkw⟩:=hrel;have HO:=qh ho;have HK:=qh hkw;have p1:=(HBX.out.kept hkw).c 12 rfl;clear ho hkw;cases gk with
  |zero=>
   obtain rfl:j=4:=by omega
   rw[HFF.out]at HO;obtain⟨A,c,rfl,-,-,-,-,-⟩:=HO.out.form;go_wp2_with fail
   go_ret
   exact⟨_,rfl,HO.out,HK.out⟩
  |succ gj=>
   obtain⟨x,F,hx,hf1,hf2,hcl⟩:=HKD.out j (by omega);have hcx:=hx _ HK.out;have hjI:(j:Int)<4:=by omega
   have hj0:(0:Int)≤(j:Int):=by omega
   have ewj:IntKind.i64.wrap ((j:Int)+1)=((j+1:Nat):Int):=by rw[IntWalk.i64_in _ (by omega)];omega
   have CL:=qh (hcl _ HK.out);have HF1:=qh hf1;have HF2:=qh hf2;clear hx hf1 hf2 hcl;go_wp2_with fail
   refine CL.out.mono ?_;rintro e w3 ⟨y,rfl,hy,hk3⟩;obtain⟨A3,c3,rfl,-,-,hrow,-,-⟩:=hy.form;have HK3:=qh hk3;have HRW:=qh hrow;have HO3:=qh (HO.out.kept hk3);have hf2:=HF2.out;rw[List.length_append]at hf2;obtain⟨m,hm⟩: ∃m,m=(FL.take j).flatten.length:=⟨_,rfl⟩
   rw[←hm]at HO3 hf2;have HM:=qh hm;have hbase:w.heap.size≤w3.heap.size:=(HK.out.trans' hk3).size;obtain⟨j0,hj1,hj2,hj3,hj5⟩:=info_parts qeM;clear hy hrow hk3 CL hcx HO hm;go_wp2_with (at_builtin;refine qaq _ rfl _ _ 98 rfl w.heap.size 3 j0 (.int .i64 0) 1 8 underlying98 hj1 hj2 hj3 hj5 rfl (by decide) u5 m (qay (FL.take j).flatten) rfl HO3.out A3 F.length c3 (qay F) rfl (by rw[qiz,Nat.mul_one]) HRW.out (qmr F) (by unfold maxLen;omega) (by omega) hbase ?_)
   intro v9 w9 hown9 hg9 hv9;have HK9:=qh ((HK.out.trans' HK3.out).grown hg9 (HK.out.trans' HK3.out).size (fun i hi=>(HO3.out.lt i hi).1))
   have hO9:Own w9 w.heap.size 1 v9 (FL.take (j+1)).flatten.length (qay (FL.take (j+1)).flatten):=by
    rw[HF1.out,qcD,List.length_append,←HM.out];exact hown9
   obtain⟨A9,c9,hv9',-,-,-,-,-⟩:=hown9.form;subst hv9';have HO9:=qh hO9;clear hown9 hg9 hv9 hO9 HO3 HRW HK3 HK p1;go_wp2_with fail
   go_roundg gj
   case measure=>omega
   case rel=>exact⟨j+1,_,by omega,rfl,by go_num,HO9.out,HK9.out⟩
theorem qng {base p:Nat} {v:Value} {u:RuD} {L:List NdR} {k:Nat} {T:TrT} {P:List Nat} (h:qaz (stR L).L k T P) (hP:P.length≤87381): ∀w:World,RfM w base p v u L→
  Calls prog 93 #[.pointer (some ⟨p,0,none⟩),.int .i64 (k:Int)] w (qcQ (P.filter (qa9 (stR L).L)) w):=by
 have hget: ∀{k:Nat} {n:NdD},(stR L).L[k]? =some n→∃m,L[k]? =some m∧m.toD=n:=fun{k n} h=>by
  simp only[stR,List.getElem?_map,Option.map_eq_some_iff]at h;exact h
 induction h with
 |leaf k n h1 h2=>
  intro w hM;obtain⟨m,hm,rfl⟩:=hget h1
  have hp:m.par=false:=by
   have:=qeK (n:=m);rw[h2]at this;simpa using this.symm
  have e:[k].filter (qa9 (stR L).L)=[k]:=by simp[qa9,h1,h2]
  rw[e];exact qkh hM hm hp
 |node k n p' q r s a b c e P Q R S h1 h2 _ _ _ _ i1 i2 i3 i4=>
  intro w hM;obtain⟨m,hm,rfl⟩:=hget h1
  have hp:m.par=true:=by
   have:=qeK (n:=m);rw[h2]at this;simpa using this.symm
  have hk:m.k0=p'∧m.k1=q∧m.k2=r∧m.k3=s:=by
   unfold NdR.toD at h2;rw[hp]at h2;simpa using h2
  obtain⟨rfl,rfl,rfl,rfl⟩:=hk
  have e:(k::(P++(Q++(R++S)))).filter (qa9 (stR L).L)=P.filter (qa9 (stR L).L)++(Q.filter (qa9 (stR L).L)++(R.filter (qa9 (stR L).L)++S.filter (qa9 (stR L).L))):=by
   simp[qa9,h1,h2,List.filter_append]
  rw[e];simp only[List.length_cons,List.length_append]at hP;have f1:=List.length_filter_le (qa9 (stR L).L) P;have f2:=List.length_filter_le (qa9 (stR L).L) Q;have f3:=List.length_filter_le (qa9 (stR L).L) R;have f4:=List.length_filter_le (qa9 (stR L).L) S;exact qki hM hm hp (by omega) (fun W hW=>i1 (by omega) W (hM.kept hW)) (fun W hW=>i2 (by omega) W (hM.kept hW)) (fun W hW=>i3 (by omega) W (hM.kept hW)) (fun W hW=>i4 (by omega) W (hM.kept hW))
theorem qeU {w:World} {base p:Nat} {v:Value} {u:RuD} {L:List NdR} (hM:RfM w base p v u L) (hS:qck L):
  Calls prog 50 #[.pointer (some ⟨p,0,none⟩)] w (qcQ (qak (stR L)) w):=by
 obtain⟨T,h1,h2⟩:=hS.whole.pre;have BE:=qh (qng h1 (by rw[h2.length_eq,List.length_range];exact hS.good.len) w hM);rw[show(qdY (stR L).L (stR L).L.length 0).filter (qa9 (stR L).L)=qak (stR L)from rfl]at BE;generalize qak (stR L)=F at *;clear hM hS h1 h2;go_enter func50,ntmps50
 go_wp2_with fail
 refine BE.out.mono ?_;rintro e w3 ⟨y,rfl,hy⟩;have HY:=qh hy;clear hy;go_wp2_with fail
 go_ret
 exact⟨y,rfl,HY.out⟩
end
section
attribute [local go_sem] qaf qad
end
def qo6 :List Value→Nat→List Value→List Value
 |old,_,[]=>old
 |old,o,v::vs=>qo6 (old.set o v) (o+1) vs
theorem Bx.setCells {b:Nat}: ∀(vs:List Value) {W:World} {old:List Value} (o:Nat),Bx W b old→o+vs.length≤old.length→Bx (W.setCells b o vs) b (qo6 old o vs)
 |[],_,_,_,h,_=>h
 |v::vs,W,old,o,h,hl=>by
  rw[World.setCells,qo6];simp only[List.length_cons]at hl;exact Bx.setCells vs (o+1) (h.set o v (by omega)) (by simp;omega)
theorem Bx.qbh {b g:Nat} (hne:b≠g): ∀(vs:List Value) {W:World} {old:List Value} (o:Nat),Bx W b old→Bx (W.setCells g o vs) b old
 |[],_,_,_,h=>h
 |v::vs,W,old,o,h=>by
  rw[World.setCells];exact Bx.qbh hne vs (o+1) (h.far ⟨g,o,none⟩ hne v)
theorem Kept.setCells {w:World} {g:Nat} (hg:w.heap.size≤g): ∀(vs:List Value) {W:World} (o:Nat),Kept w W→Kept w (W.setCells g o vs)
 |[],_,_,h=>h
 |v::vs,W,o,h=>by
  rw[World.setCells];exact Kept.setCells hg vs (o+1) (h.set hg o v)
theorem Bx.there {W:World} {b:Nat} {vs:List Value} (h:Bx W b vs) {o n:Nat} (hl:o+n≤vs.length):W.there b o n:=fun j hj=>by
 rw[h.c (o+j) (List.getElem?_eq_getElem (show o+j<vs.length by omega))];exact⟨rfl,h.f (o+j)⟩
theorem Bx.range {W:World} {b:Nat} {vs:List Value} (h:Bx W b vs) {o:Nat} {cs:List Value} (hc: ∀j v,cs[j]? =some v→vs[o+j]? =some v):W.rangeAt b o cs:=fun j v hv=>h.c (o+j) (hc j v hv)
theorem qa5 {P:Program} {o:Oper} {a:Act} {W:World} {b off:Nat} {T:TypeId} {d:TypeDesc} {vs:List Value} (x:Operand) (ho:o.op=.load T x) (hx:a.eval x=.pointer (some ⟨b,off,none⟩)) (hc:W.rangeAt b off vs) (hu:P.underlying T=some d) (hd:d.isRow=true) (hi:(P.info? T).map (·.size)=some vs.length):
  (execOp a.eval o).run P W=.ok (.value (.agg vs.toArray)) W:=by
 unfold execOp;simp only[ho,hx,Instr.loadAt,Instr.sureAddr,Sem.run_bind,Sem.run_pure,Result.andThen_ok,run_loadVar_mid W b off T vs d hc hu hd hi]
theorem qbn {P:Program} {o:Oper} {a:Act} {W:World} {T:TypeId} {parts:Array (Nat×Operand)} (vs:List Value) (ho:o.op=.build T parts) (hv:P.built T (parts.map fun(i,x)=>(i,a.eval x)).toList=some vs.toArray):
  (execOp a.eval o).run P W=.ok (.value (.agg vs.toArray)) W:=by
 unfold execOp;simp only[ho,Sem.run_bind,run_build W T _ vs.toArray hv,Result.andThen_ok,Sem.run_pure]
section
attribute [local go_sem] Oper.semAt_some
def prL (S:StD) (k:Nat):SqD×Nat:=match S.L[k]? with
 |some n=>(n.sq,n.told)
 |none=>(zSq,0)
def qdL :List (SqD×Nat)→List DyD→Option (List DyD)
 |[],A=>some A
 |(s,t)::l,A=>if (qaE (A.getD t zD) (qbW s)).2=0 then qdL l (A.set t (qaE (A.getD t zD) (qbW s)).1)else none
theorem qej (m:List (SqD×Nat)): ∀(l:List (SqD×Nat)) (A:List DyD),qdL (l++m) A=(qdL l A).bind (qdL m)
 |[],A=>rfl
 |(s,t)::l,A=>by
  simp only[List.cons_append,qdL];split
  ·exact qej m l _
  ·rfl
def dyL (d:DyD):List Value:=(LC0 d.neg d.n d.e)
def qdJ (A:List DyD):List Value:=A.flatMap dyL
def z3D :List DyD:=[zD,zD,zD]
theorem qhr {A:List DyD} (hA:A.length=3) {t:Nat} (ht:t<3) (d:DyD):qo6 (qdJ A) (t*3) (dyL d)=qdJ (A.set t d):=by
 rcases A with _|⟨a,_|⟨b,_|⟨c,_|⟨e,A⟩⟩⟩⟩<;>first|(simp at hA;done)|skip
 rcases(show t=0∨t=1∨t=2 by omega)with rfl|rfl|rfl<;>rfl
theorem qea {A:List DyD} (hA:A.length=3) {t:Nat} (ht:t<3): ∀j v,(dyL (A.getD t zD))[j]? =some v→(qdJ A)[t*3+j]? =some v:=by
 rcases A with _|⟨a,_|⟨b,_|⟨c,_|⟨e,A⟩⟩⟩⟩<;>first|(simp at hA;done)|skip
 intro j v hj;have hj3:j<3:=by have:=(List.getElem?_eq_some_iff.1 hj).1;simpa [dyL] using this
 rcases(show t=0∨t=1∨t=2 by omega)with rfl|rfl|rfl<;>(rcases(show j=0∨j=1∨j=2 by omega)with rfl|rfl|rfl<;>exact hj)
theorem qct {A:List DyD} (hA:A.length=3):(qdJ A).length=9:=by
 rcases A with _|⟨a,_|⟨b,_|⟨c,_|⟨e,A⟩⟩⟩⟩<;>first|(simp at hA;done)|rfl
structure qdK (S:StD) (pre:List Nat) (A:List DyD):Prop where
 sum:qdL (pre.map (prL S)) z3D=some A
 len:A.length=3
 ok: ∀d∈A,qae d=true
theorem qdK.nil (S:StD):qdK S [] z3D:=⟨rfl,rfl,fun d hd=>by
 have:d=zD:=by simpa [z3D] using hd
 rw[this];decide⟩
theorem qdK.get {S:StD} {pre:List Nat} {A:List DyD} (h:qdK S pre A) {t:Nat} (ht:t<3):qae (A.getD t zD)=true:=by
 rw[List.getD_eq_getElem?_getD,List.getElem?_eq_getElem (by rw[h.len];exact ht)];exact h.ok _ (List.getElem_mem _)
theorem qdK.next {S:StD} {pre:List Nat} {A:List DyD} (h:qdK S pre A) {k:Nat} {n:NdD} (hn:S.L[k]? =some n) (ht:n.told<3) (ha:qae (qbW n.sq)=true) (he:(qaE (A.getD n.told zD) (qbW n.sq)).2=0):qdK S (pre++[k]) (A.set n.told (qaE (A.getD n.told zD) (qbW n.sq)).1):=by
 refine⟨?_,by rw[List.length_set];exact h.len,fun d hd=>?_⟩
 ·rw [List.map_append,qej,h.sum]
  simp only[List.map_cons,List.map_nil,prL,hn,Option.bind_some,qdL];rw[if_pos he]
 ·rcases List.mem_or_eq_of_mem_set hd with h1|h1
  ·exact h.ok _ h1
  ·rw [h1];exact qfB (h.get ht) ha
theorem qdK.stop {S:StD} {pre:List Nat} {A:List DyD} (h:qdK S pre A) {k:Nat} {n:NdD} (hn:S.L[k]? =some n) (he: ¬(qaE (A.getD n.told zD) (qbW n.sq)).2=0) (m:List (SqD×Nat)):qdL ((pre++[k]).map (prL S)++m) z3D=none:=by
 rw[List.map_append,List.append_assoc,qej,h.sum];simp only[List.map_cons,List.map_nil,prL,hn,Option.bind_some,List.cons_append,List.nil_append,qdL];rw[if_neg he]
def qpx :Option (List DyD)→Value
 |some A=>.tuple #[.agg (dyL (A.getD 1 zD)).toArray,.agg (dyL (A.getD 2 zD)).toArray,.agg (dyL (A.getD 0 zD)).toArray,.int .i64 0]
 |none=>.tuple #[.agg (dyL zD).toArray,.agg (dyL zD).toArray,.agg (dyL zD).toArray,.int .i64 4]
end
section
attribute [local go_sem] Oper.semAt_some
theorem qfY (s:SqD):qae (qbW s)=true:=qet _ _
structure ArI (S:StD) (w:World) (p b ca:Nat) (pre:List Nat) (W:World):Prop where
 kept:Kept w W
 ptr:Bx W b [.pointer (some ⟨p,0,none⟩)]
 x:Bx W (b+1) (dyL zD)
 y:Bx W (b+2) (dyL zD)
 z:Bx W (b+3) (dyL zD)
 e:Bx W (b+4) [.int .i64 0]
 acc: ∃A,qdK S pre A∧Bx W ca (qdJ A)
structure ArX (S:StD) (w:World) (b:Nat) (pre:List Nat) (W:World):Prop where
 kept:Kept w W
 x:Bx W (b+1) (dyL zD)
 y:Bx W (b+2) (dyL zD)
 z:Bx W (b+3) (dyL zD)
 e:Bx W (b+4) [.int .i64 4]
 none: ∀m,qdL (pre.map (prL S)++m) z3D=Option.none
theorem ArI.lt {S:StD} {w W:World} {p b ca:Nat} {pre:List Nat} (h:ArI S w p b ca pre W):ca<W.heap.size:=by
 obtain⟨A,-,h⟩:=h.acc;exact h.lt
theorem ArI.own {S:StD} {w:World} {p b ca B:Nat} (hw:w.heap.size≤B):OwnFrom B (ArI S w p b ca):=by
 rintro pre W W' row ⟨h1,h2,h3,h4,h5,h6,A,h7,h8⟩ hg hr;have hr2:=fun r e=>(hr r e).2;have h9: ∃x,(qdJ A)[0]? =some x:=⟨_,List.getElem?_eq_getElem (by rw[qct h7.len];omega)⟩
 obtain⟨x,h9⟩:=h9;exact⟨h1.grown hg h1.size (fun r e=>Nat.le_trans hw (hr r e).1),h2.qbz (w:=w) rfl hg hr2,h3.qbz (w:=w) rfl hg hr2,h4.qbz (w:=w) rfl hg hr2,h5.qbz (w:=w) rfl hg hr2,h6.qbz (w:=w) rfl hg hr2,A,h7,h8.qbz (w:=w) h9 hg hr2⟩
theorem ArX.own {S:StD} {w:World} {b B:Nat} (hw:w.heap.size≤B):OwnFrom B (ArX S w b):=by
 rintro pre W W' row ⟨h1,h3,h4,h5,h6,h7⟩ hg hr;have hr2:=fun r e=>(hr r e).2;exact⟨h1.grown hg h1.size (fun r e=>Nat.le_trans hw (hr r e).1),h3.qbz (w:=w) rfl hg hr2,h4.qbz (w:=w) rfl hg hr2,h5.qbz (w:=w) rfl hg hr2,h6.qbz (w:=w) rfl hg hr2,h7⟩
theorem ArI.use {S:StD} {w:World} {p b ca B:Nat} {U:World→Nat→Prop} (hw:w.heap.size≤B) (h1:b+4<B) (h2:ca<B):qdh B U (ArI S w p b ca):=by
 rintro pre W W' row ⟨k1,k2,k3,k4,k5,k6,A,k7,k8⟩ hg hr;have hb: ∀k,k<B→row≠some k:=fun k hk e=>by have:=(hr k e).1;omega
 exact⟨k1.grown hg k1.size (fun r e=>Nat.le_trans hw (hr r e).1),k2.qbw hg (hb _ (by omega)),k3.qbw hg (hb _ (by omega)),k4.qbw hg (hb _ (by omega)),k5.qbw hg (hb _ (by omega)),k6.qbw hg (hb _ (by omega)),A,k7,k8.qbw hg (hb _ h2)⟩
theorem ArX.use {S:StD} {w:World} {b B:Nat} {U:World→Nat→Prop} (hw:w.heap.size≤B) (h1:b+4<B):qdh B U (ArX S w b):=by
 rintro pre W W' row ⟨k1,k3,k4,k5,k6,k7⟩ hg hr;have hb: ∀k,k<B→row≠some k:=fun k hk e=>by have:=(hr k e).1;omega
 exact⟨k1.grown hg k1.size (fun r e=>Nat.le_trans hw (hr r e).1),k3.qbw hg (hb _ (by omega)),k4.qbw hg (hb _ (by omega)),k5.qbw hg (hb _ (by omega)),k6.qbw hg (hb _ (by omega)),k7⟩
theorem qd0 {g k:Nat} (h:k≠g): ∀(vs:List Value) (W:World) (o:Nat),(W.setCells g o vs).heap[k]? =W.heap[k]?
 |[],_,_=>rfl
 |v::vs,W,o=>by
  rw[World.setCells,qd0 h vs];simp only[World.setCell];rw[Array.getElem?_modify,if_neg (fun e=>h e.symm)]
theorem size_setCells {g:Nat}: ∀(vs:List Value) (W:World) (o:Nat),(W.setCells g o vs).heap.size=W.heap.size
 |[],_,_=>rfl
 |v::vs,W,o=>by
  rw[World.setCells,size_setCells vs];simp[World.setCell]
theorem heap_setCell {g k o:Nat} (h:k≠g) (v:Value) (W:World):(W.setCell ⟨g,o,none⟩ v).heap[k]? =W.heap[k]? :=by
 simp only[World.setCell];rw[Array.getElem?_modify,if_neg (fun e=>h e.symm)]
theorem qfz {W X Y:World} {b ca B:Nat} (hB:ca<B) (hk:Kept W X) (hsame: ∀k,¬(b+1≤k∧k≤ca)→Y.heap[k]? =X.heap[k]?) (hsz:X.heap.size≤Y.heap.size):KeepsFrom B W Y∧qef (fun _ k=>b+1≤k∧k≤ca) W Y:=
 ⟨⟨Nat.le_trans hk.size hsz,fun k o h1 h2 _=>(hsame k (by omega)).trans ((hk.block k (Array.getElem?_eq_some_iff.1 h2).1).trans h2)⟩,Nat.le_trans hk.size hsz,fun k o h2 _ hu=>(hsame k hu).trans ((hk.block k (Array.getElem?_eq_some_iff.1 h2).1).trans h2),fun k h=>.inl h⟩
theorem qpW {P:Nat→Prop} {B:Nat}:qfO B (fun _ k=>P k):=⟨fun _ _ _ _ _ _ _ h=>h,fun _ _ _ _ _ _ _ _ h=>h⟩
set_option maxRecDepth 100000 in
set_option maxHeartbeats 6400000 in
theorem qm9 {w:World} {base p:Nat} {v:Value} {u:RuD} {S:StD} (hM:TrM w base p v u S) (hS:GoodS S) (hW:Whole S) (hT:T32 w):
  Calls prog 45 #[.pointer (some ⟨p,0,none⟩)] w fun en w'=>en=.returned (qpx (qdL ((qak S).map (prL S)) z3D))∧Kept w w':=by
 have HM:=qh hM;have HS:=qh hS;have HW:=qh hW;have HT:=qh hT;have HPL:=qh hM.box.lt;have HVL:=qh (fun k hk=>(hM.own.lt k hk).2);have NN:=qh (fun W h=>qdm (w:=W) (hM.kept h) hS);clear hM hS hW hT;refine callsIn_wide.1 (callsIn_of_wp_marks (n:=5) func45 rfl trivial ?_ rfl);simp only[ntmps45,List.size_toArray,List.length_cons,List.length_nil,Nat.reduceAdd,Nat.reduceSub,Array.replicate_succ,Array.replicate_zero,List.push_toArray,List.append_toArray,List.nil_append,List.cons_append];refine wpIn_wide.2 ?_;refine wp_mono (Q:=qfc _) ?_ qdn;go_upto_region 1 with fail
 obtain⟨b,w1,hw,hb,B0,B1,B2,B3,B4,K1,HB⟩:=qpI w [.pointer (some ⟨p,0,none⟩)] 38 (LC0 false ⟨#[]⟩ 0) 24 (LC0 false ⟨#[]⟩ 0) 24 (LC0 false ⟨#[]⟩ 0) 24 [.int .i64 0] 39;rw[←hw,←hb];clear hw hb;have b0:=B0.out.c 0 rfl;go_upto_region 4 with (go_at_call 35;(with_reducible refine(NN.out _ K1.out).mono ?_);rintro e w3 ⟨rfl,h3⟩;replace h3:=h3.symm;subst h3)
 have K2:=qh (Kept.new K1.out (.cells ZL5.toArray 112));have BA:Hid (Bx (w1.alloc (.cells ZL5.toArray 112)) w1.heap.size (qdJ z3D)):=qh (Bx.new w1 ZL5 112 w1.heap.size rfl);have KA:=Kept.new (Below.refl _ w1) (.cells ZL5.toArray 112);replace B0:=qh (B0.out.kept KA);replace B1:=qh (B1.out.kept KA);replace B2:=qh (B2.out.kept KA);replace B3:=qh (B3.out.kept KA);have hb4:=B4.out.lt;replace B4:=qh (B4.out.kept KA);obtain⟨ca,hca⟩: ∃b,b=w1.heap.size:=⟨_,rfl⟩
 have HCA:=qh (show b+4<ca by omega);rw[←hca]at BA⊢;clear hca KA b0 K1 hb4 NN;generalize World.alloc w1 _=wA at *;have b0:=B0.out.c 0 rfl;go_wp2_with fail
 refine(qga p _).mono ?_;rintro e w2 ⟨Bc,rfl,hk2,hBc,hbx⟩;have hf1: ∀W,(binOp .eql 166 (.func (.func 131) #[] #[.pointer (some ⟨Bc,0,none⟩)]) .nilFunc).run prog W=.ok (.bool false) W:=fun W=>by kernel_rfl
 clear b0;go_wp2_with fail
 refine qof fun A0 hA=>?_;have HA:=qh hA;have hev:A0.eval (.tmp 17)=.func (.func 131) #[] #[.pointer (some ⟨Bc,0,none⟩)]:=by rw[hA];rfl
 have HK2:=qh (K2.out.trans' hk2);have HM2:=qh (HM.out.kept HK2.out);have HI0:Hid (ArI S w p b ca [] w2):=qh ⟨HK2.out,B0.out.kept hk2,B1.out.kept hk2,B2.out.kept hk2,B3.out.kept hk2,B4.out.kept hk2,z3D,qdK.nil S,BA.out.kept hk2⟩;have HLA:=qh (show ca<w2.heap.size from HI0.out.lt);have HSZ:=qh HK2.out.size;have HBX:=qh hbx;have HBC:=qh (show ca<Bc by have:=BA.out.lt;omega);clear hA hk2 hBc hbx B0 B1 B2 B3 B4 BA K2
 refine(wpIn_wide (n:=5)).1 (qbr (α:=Nat) rfl (by decide) (gf:=131) (lb:=#[.pointer (some ⟨Bc,0,none⟩)]) hev trivial (enters_of func131 (by kernel_rfl) rfl)
  (qgZ 4 (by omega) HM2.out HS.out HW.out HBX.out (B0:=w2.heap.size) (U:=fun _ k=>b+1≤k∧k≤ca) qpW (fun W k hk hu=>by
   have h1:=HB.out;have h2:=HPL.out;have h3:=HBC.out;rcases hk with rfl|rfl|hk
   ·omega
   ·omega
   ·have:=HVL.out _ hk;omega))
  qpW (Below.refl _ _) (fun _=>rfl)
  (ArI S w p b ca) (fun c pre W=>c=Code.ret∧ArX S w b pre W) (ArI.own HSZ.out) (fun c s A B row h hg hr=>⟨h.1,ArX.own HSZ.out s A B row h.2 hg hr⟩)
  (ArI.use HSZ.out (by have:=HCA.out;have:=HLA.out;omega) HLA.out) (fun c s A B row h hg hr=>⟨h.1,ArX.use (U:=fun _ k=>b+1≤k∧k≤ca) HSZ.out (by have:=HCA.out;have:=HLA.out;omega) s A B row h.2 hg hr⟩)
  (fun pre W h k hk=>Nat.lt_of_le_of_lt hk.2 h.lt)
  HI0.out
  (fun k a' _=>(∃n,S.L[k]? =some n)∧a'=⟨(A0.tmps.setIfInBounds 18 (.int .i64 (k:Int))).setIfInBounds 7 (.int .i64 (k:Int)),[]⟩)
  (fun x a' s A B row h _ _=>h) ?assign ?body ?done ?stop)
 case assign=>
  rintro l pre k W K2 hI ⟨t,ht⟩ hK2;have hkm:k∈qak S:=by rw[ht];simp
  obtain⟨n,hn⟩: ∃n,S.L[k]? =some n:=⟨_,List.getElem?_eq_getElem (qbD HW.out k hkm)⟩
  have HK:=qh hK2;have HI:=qh hI;have HN:=qh hn;have hA:=HA.out;simp only[encI];rw[hA];clear hK2 hI hn hkm ht;gi_wp2_with fail
  refine HK.out _ _ (KeepsFrom.refl _ _) ⟨Nat.le_refl _,fun _ _ h _ _=>h,fun _ h=>.inl h⟩ HI.out ⟨⟨n,HN.out⟩,?_⟩;rw[hA];simp only[List.setIfInBounds_toArray,List.set_cons_zero,List.set_cons_succ]
 case body=>
  rintro l pre k a' W hl ⟨rc,hrc⟩ hI ⟨⟨n,hn⟩,rfl⟩ hlen;have HI:=qh hI;have HN:=qh hn;obtain⟨A,hacc,hba⟩:=hI.acc;have HAC:=qh hacc;have HBA:=qh hba;have htd:=(HS.out.nd _ _ hn).told;have hsq:=(HS.out.nd _ _ hn).sq;have TM:=HM.out.kept hI.kept;obtain⟨gt,ot,ct,hv,-,hgt,-,hcell,-⟩:=TM.form HS.out.pos;have HCL:=qh (fun i y hy=>show W.cell? ⟨gt,ot+k*13+i,none⟩=some y by rw[Nat.add_assoc];exact hcell k n i y hn hy);have p1:=TM.box.c 1 rfl;rw[hv]at p1;have b0:=hI.ptr.c 0 rfl;have hkl:(k:Int)<((S.L.length:Nat):Int):=by have:=(List.getElem?_eq_some_iff.1 hn).1;omega
  have hk0:(0:Int)≤(k:Int):=by omega
  have AR:=qh (fun Z (h:Kept w Z)=>area_any n.sq Z hsq (HT.out.kept h));have AD:=qh (fun Z (h:Kept w Z)=>qfK (A.getD n.told zD) (qbW n.sq) Z (hacc.get (by omega)) (qfY _) (HT.out.kept h));have HNE:=qh (fun he=>hacc.next hn (by omega) (qfY n.sq) he);have HST:=qh (fun he m=>hacc.stop hn he m);have HTD:=qh htd;have hA:=HA.out;rw[hA];simp only[List.setIfInBounds_toArray,List.set_cons_zero,List.set_cons_succ];clear hl hrc hlen hI hacc hba TM hcell hv hgt hA hn hsq htd;generalize S.L.length=SN at hkl p1;gi_upto_region 6 with fail
  refine wpIn_region_list ?_
  iterate 6
   refine wpListIn_plain rfl fun K hK=>?_;refine Oper.qbl (fun c h=>by cases h) ?_;go_step;refine hK _ _ ?_;clear hK K
  refine wpListIn_plain rfl fun K hK=>Oper.qbl (fun c h=>by cases h) (qau (vs:=ndV n) (g:=gt) (off:=ot+k*13) (n:=13) _ rfl rfl HCL.out rfl underlying91 rfl (by kernel_rfl) (hK _ _ ?_));clear hK K HCL;refine wpListIn_plain rfl fun K hK=>?_;refine Oper.qbl (fun c h=>by cases h) ?_;go_step;refine hK _ _ ?_;clear hK K;have KY:=qh (Kept.new (Below.refl _ W) (.cells #[.bool false,.string ⟨#[]⟩,.int .i64 0,.bool false,.string ⟨#[]⟩,.int .i64 0,.int .i64 0,.int .u8 0,.int .i64 0,.int .i64 0,.int .i64 0,.int .i64 0,.int .i64 0] 91));have BY:=qh (Bx.new W [.bool false,.string ⟨#[]⟩,.int .i64 0,.bool false,.string ⟨#[]⟩,.int .i64 0,.int .i64 0,.int .u8 0,.int .i64 0,.int .i64 0,.int .i64 0,.int .i64 0,.int .i64 0] 91 W.heap.size rfl);obtain⟨y,hy⟩: ∃y,y=W.heap.size:=⟨_,rfl⟩
  have HY:=qh (show W.heap.size≤y by omega);rw[←hy]at BY⊢;clear hy b0 p1 hkl hk0;generalize World.alloc W _=w4 at *;refine wpListIn_plain rfl fun K hK=>Oper.qbl (fun c h=>by cases h) (qaa (vs:=ndV n) (b:=y) (n:=13) _ _ rfl rfl rfl BY.out rfl rfl (by kernel_rfl) rfl (hK _ _ ?_));clear hK K;replace BY:=qh (BY.out.row (ndV n));replace KY:=qh (Kept.row KY.out HY.out (ndV n));generalize World.setRow w4 _ _=w5 at *;gi_upto_region 7 with fail
  refine wpIn_region_list ?_;refine wpListIn_plain rfl fun K hK=>?_;refine Oper.qbl (fun c h=>by cases h) ?_;go_step;refine hK _ _ ?_;clear hK K
  refine wpListIn_plain rfl fun K hK=>Oper.qbl (fun c h=>by cases h) (qau (vs:=qjM n) (g:=y) (off:=0) (n:=7) _ rfl rfl (fun i z hi=>by
   rw[Nat.zero_add];refine BY.out.c i ?_;have:qjM n=(ndV n).take 7:=rfl;rw[this,List.getElem?_take]at hi;split at hi
   ·exact hi
   ·cases hi) rfl underlying26 rfl (by kernel_rfl) (hK _ _ ?_))
  clear hK K;refine wpListIn_plain rfl fun K hK=>?_;refine Oper.qbl (fun c h=>by cases h) ?_;go_step;(with_reducible refine(AR.out _ (HI.out.kept.trans' KY.out)).mono ?_)
  rintro e w6 ⟨rfl,hk6⟩;have K6:=qh (KY.out.trans' hk6);replace BY:=qh (BY.out.kept hk6);clear hk6 KY AR
  iterate 4
   refine hK _ _ ?_;clear hK K;refine wpListIn_plain rfl fun K hK=>?_;refine Oper.qbl (fun c h=>by cases h) ?_;go_step
  refine hK _ _ ?_;clear hK K;have HYL:=qh BY.out.lt;have K7:=qh (Kept.new K6.out (.cells (LC0 false ⟨#[]⟩ 0).toArray 24));have BD:=qh (Bx.new w6 (LC0 false ⟨#[]⟩ 0) 24 w6.heap.size rfl);replace BY:=qh (BY.out.kept (Kept.new (Below.refl _ w6) (.cells (LC0 false ⟨#[]⟩ 0).toArray 24)));obtain⟨da,hda⟩: ∃y,y=w6.heap.size:=⟨_,rfl⟩
  have HDA:=qh (show W.heap.size≤da by have:=K6.out.size;omega);have HYD:=qh (show y≠da by have:=HYL.out;omega);rw[←hda]at BD⊢;clear hda K6;generalize World.alloc w6 _=w7 at *;generalize qbW n.sq=XA at *;refine wpListIn_plain rfl fun K hK=>Oper.qbl (fun c h=>by cases h) (qaa (vs:=dyL XA) (b:=da) (n:=3) _ _ rfl rfl rfl BD.out rfl rfl (by kernel_rfl) rfl (hK _ _ ?_));clear hK K;replace BD:=qh (BD.out.row (dyL XA));replace BY:=qh (BY.out.off HYD.out (dyL XA));replace K7:=qh (Kept.row K7.out HDA.out (dyL XA));generalize World.setRow w7 _ _=w8 at *;gi_upto_region 8 with fail
  have KD:Kept W w8.drew:=K7.out.trans' (show Kept w8 w8.drew from(Below.refl _ w8).drew);have KD8:Kept w8 w8.drew:=(Below.refl _ w8).drew;have HKD:=qh KD;have HCY:=qh (show ca<W.heap.size from HI.out.lt);have hS0:Bx w8.drew y (ndV n)∧Bx w8.drew da (dyL XA):=⟨BY.out.kept KD8,BD.out.kept KD8⟩
  have hCA0:Bx w8.drew ca (qdJ A):=HBA.out.kept KD;have HADR:=qh (AD.out w8.drew (HI.out.kept.trans' KD));obtain⟨td,htd⟩: ∃td,td=n.told:=⟨_,rfl⟩
  have HTDE:=qh htd;have htl:td≤2:=by rw[htd];exact HTD.out
  have htd3:(td:Int)<3:=by omega
  have htd0:(0:Int)≤(td:Int):=by omega
  have HN7:=qh (show(ndV n)[7]? =some (.int .u8 (td:Int)) by rw[htd];rfl);rw[←htd]at HADR HNE HST;have HRG:=qh (fun Z (hz:Bx Z ca (qdJ A))=>hz.range (qea HAC.out.len (t:=td) (by omega)));obtain⟨D0,hD0⟩: ∃D0,D0=A.getD td zD:=⟨_,rfl⟩
  rw[←hD0]at HADR HNE HST HRG;have HRL:=qh (qdH D0 XA);generalize qaE D0 XA=RA at *;have HTL:=qh htl;clear AD KD KD8 HTD hD0 htd htl;generalize ndV n=NV at *;refine qcR (fun Z=>Bx Z y NV∧Bx Z da (dyL XA)) [13] (by kernel_rfl) (by kernel_rfl) ?_ (fun hHeld=>?_)
  ·assumption
  refine wS 0 33 ?_;refine wS 1 34 ?_ (hy:=fun w hSw=>by have y7:=hSw.1.c 7 HN7.out;go_simp;(try with_reducible rfl));refine wS 2 35 ?_;refine wS 3 36 ?_ (hy:=fun w hSw=>by have y7:=hSw.1.c 7 HN7.out;go_simp;(try with_reducible rfl));refine wS 4 37 ?_;refine yS (v:=.agg (dyL XA).toArray) 6 39 ?_ ?_
  ·intro w hSw;(try dsimp only at hSw);exact qao (vs:=dyL XA) (n:=3) _ rfl rfl hSw.2 rfl underlying24 rfl (by kernel_rfl)
  try simp only[Act.put,tdy]
  refine oS 5 fun K hK=>?_;refine qaH rfl (qau (vs:=dyL D0) (g:=ca) (off:=td*3) (n:=3) _ rfl rfl (HRG.out _ hCA0) rfl underlying24 rfl (by kernel_rfl) ?_);refine hK.out _ _ ?_ (fun hHeld=>?_)
  ·assumption
  clear hK K;try simp only[Act.put,tdy]
  refine oS 7 fun K hK=>?_;go_simp;(refine HADR.out.mono ?_;rintro e w9 ⟨rfl,hk9⟩;have HK9:=qh hk9;have hS9:=And.intro (hS0.1.kept hk9) (hS0.2.kept hk9);have hCA9:=hCA0.kept hk9)
  refine hK.out _ _ ?_ (fun hHeld=>?_)
  ·assumption
  clear hK K;try simp only[Act.put,tdy]
  refine wS 8 32 ?_;refine wS 9 41 ?_;refine wS 11 43 ?_;have hYC:=HCY.out;have hYY:=HY.out;have hYD:=HDA.out;have hS10:Bx (World.setCells w9 ca (td*3) (dyL RA.1)) y NV∧Bx (World.setCells w9 ca (td*3) (dyL RA.1)) da (dyL XA):=⟨Bx.qbh (g:=ca) (by omega) (dyL RA.1) (td*3) hS9.1,Bx.qbh (g:=ca) (by omega) (dyL RA.1) (td*3) hS9.2⟩
  have hTH:=hCA9.there (o:=td*3) (n:=3) (by rw[qct HAC.out.len];omega);clear hYC hYY hYD;refine tS 10 12 (fun K hK=>?_) (fun K hK=>?_)
  ·skip
   go_simp;refine hK.out _ _ ?_ (fun hHeld=>?_)
   ·assumption
   clear hK K;try simp only[Act.put,tdy]
   refine oS 12 fun K hK=>?_;(refine qaH rfl (wp_store_mid _ _ _ rfl ca (td*3) (dyL RA.1).toArray rfl rfl hTH (by kernel_rfl) (all_oneCell_toArray (fun v hv=>List.all_eq_true.1 (show(dyL RA.1).all Value.oneCell'=true from rfl) v hv)) ?_))
   refine hK.out _ _ ?_ (fun hHeld=>?_)
   ·assumption
   clear hK K;try simp only[Act.put,List.setIfInBounds_toArray]
   have K9:=qh (HKD.out.trans' HK9.out);have HLC:=HCA.out;have PT:=qh ((HI.out.ptr.kept K9.out).qbh (g:=ca) (by omega) (dyL RA.1) (td*3));have X1:=qh ((HI.out.x.kept K9.out).qbh (g:=ca) (by omega) (dyL RA.1) (td*3));have X2:=qh ((HI.out.y.kept K9.out).qbh (g:=ca) (by omega) (dyL RA.1) (td*3));have X3:=qh ((HI.out.z.kept K9.out).qbh (g:=ca) (by omega) (dyL RA.1) (td*3));have X4:=qh ((HI.out.e.kept K9.out).qbh (g:=ca) (by omega) (dyL RA.1) (td*3));have BC:=qh (show Bx _ ca (qdJ (A.set td RA.1)) by(rw[←qhr HAC.out.len (by omega)];exact hCA9.setCells (dyL RA.1) (td*3) (by rw[qct HAC.out.len];show td*3+3≤9;omega)));have HKW:=qh (Kept.setCells (g:=ca) (by have:=HB.out;omega) (dyL RA.1) (td*3) (HI.out.kept.trans' K9.out));have HSM:Hid (∀k,k≠ca→(World.setCells w9 ca (td*3) (dyL RA.1)).heap[k]? =w9.heap[k]?):=qh fun k hk=>qd0 hk _ _ _;have HZ:=qh (Nat.le_of_eq (size_setCells (g:=ca) (dyL RA.1) w9 (td*3)).symm);generalize World.setCells w9 ca _ _=w10 at *;have c4:=X4.out.c 0 rfl;have f4:=X4.out.f 0;refine eS 13 fun K hK=>?_;go_simp;refine hK.out _ _ ?_;clear hK K;try simp only[Act.put,tdy]
   refine dS ?_ _;refine qdS.ok ?_;have E4:=qh (X4.out.set 0 (.int .i64 RA.2) (by simp));replace PT:=qh (PT.out.far ⟨b+4,0,none⟩ (by show b≠b+4;omega) (.int .i64 RA.2));replace X1:=qh (X1.out.far ⟨b+4,0,none⟩ (by show b+1≠b+4;omega) (.int .i64 RA.2));replace X2:=qh (X2.out.far ⟨b+4,0,none⟩ (by show b+2≠b+4;omega) (.int .i64 RA.2));replace X3:=qh (X3.out.far ⟨b+4,0,none⟩ (by show b+3≠b+4;omega) (.int .i64 RA.2));replace BC:=qh (BC.out.far ⟨b+4,0,none⟩ (by show ca≠b+4;omega) (.int .i64 RA.2));replace HKW:=qh (HKW.out.setCell (p:=⟨b+4,0,none⟩) (by have:=HB.out;show w.heap.size≤b+4;omega) (.int .i64 RA.2));replace HSM:Hid (∀k,¬(b+1≤k∧k≤ca)→(World.setCell w10 ⟨b+4,0,none⟩ (.int .i64 RA.2)).heap[k]? =w9.heap[k]?):=qh fun k hk=>(heap_setCell (by omega) _ _).trans (HSM.out k (by omega));replace HZ:=qh (show w9.heap.size≤(World.setCell w10 ⟨b+4,0,none⟩ (.int .i64 RA.2)).heap.size by simpa [World.setCell] using HZ.out);clear X4 c4 f4 hS0 hS9 hS10 hTH hCA0 hCA9 BY BD HBA HADR HRG HK9 hHeld;generalize World.setCell w10 _ _=w11 at *;have c4:w11.cell? ⟨b+4,0,none⟩=some (.int .i64 RA.2):=E4.out.c 0 rfl;by_cases he:RA.2=0
   ·have HACN:=qh (HNE.out he)
    have e0:(RA.2 != 0)=false:=by(simp;exact he)
    gi_wp2_with fail
    obtain⟨r1,r2⟩:=qfz HLA.out K9.out HSM.out HZ.out;refine⟨r1,r2,HKW.out,PT.out,X1.out,X2.out,X3.out,?_,A.set td RA.1,HACN.out,BC.out⟩;have h:=E4.out;rw[he]at h;exact h
   ·have e0:(RA.2 != 0)=true:=by simpa using he
    have HST2:=qh (HST.out he);have h4e:Hid (RA.2=4):=qh (by(rcases HRL.out with h|h;exact absurd h he;rw[h]));gi_wp2_with fail
    have h4:Bx w11.drew (b+4) [.int .i64 RA.2]:=E4.out.kept (show Kept w11 w11.drew from(Below.refl _ w11).drew);replace X1:=qh (X1.out.kept (show Kept w11 w11.drew from(Below.refl _ w11).drew));replace X2:=qh (X2.out.kept (show Kept w11 w11.drew from(Below.refl _ w11).drew));replace X3:=qh (X3.out.kept (show Kept w11 w11.drew from(Below.refl _ w11).drew));replace HKW:=qh ((show Kept w w11 from HKW.out).trans' (show Kept w11 w11.drew from(Below.refl _ w11).drew));replace HSM:Hid (∀k,¬(b+1≤k∧k≤ca)→w11.drew.heap[k]? =w9.heap[k]?):=HSM;replace HZ:Hid (w9.heap.size≤w11.drew.heap.size):=HZ;clear E4 PT BC c4;refine qcR (fun Z=>Bx Z (b+4) [.int .i64 RA.2]) [7] (by kernel_rfl) (by kernel_rfl) ?_ (fun hHeld=>?_)
    ·assumption
    refine yS (v:=.agg #[.bool false,.string ⟨#[]⟩,.int .i64 0]) 0 46 ?_ ?_
    ·intro w hSw;exact qbn (LC0 false ⟨#[]⟩ 0) rfl (by kernel_rfl)
    try simp only[Act.put,tdy]
    refine yS (v:=.agg #[.bool false,.string ⟨#[]⟩,.int .i64 0]) 1 47 ?_ ?_
    ·intro w hSw;exact qbn (LC0 false ⟨#[]⟩ 0) rfl (by kernel_rfl)
    try simp only[Act.put,tdy]
    refine yS (v:=.agg #[.bool false,.string ⟨#[]⟩,.int .i64 0]) 2 48 ?_ ?_
    ·intro w hSw;exact qbn (LC0 false ⟨#[]⟩ 0) rfl (by kernel_rfl)
    try simp only[Act.put,tdy]
    refine wS 3 49 ?_ (hy:=fun w hSw=>by have y7:=hSw.c 0 rfl;go_simp;(try with_reducible rfl));refine oS 4 fun K hK=>?_;(refine qaH rfl (qaa (vs:=(LC0 false ⟨#[]⟩ 0)) (b:=b+1) (n:=3) _ _ rfl rfl rfl X1.out rfl rfl (by kernel_rfl) rfl ?_);have hS4:=Bx.off h4 (g:=b+1) (by omega) (LC0 false ⟨#[]⟩ 0))
    refine hK.out _ _ ?_ (fun hHeld=>?_)
    ·assumption
    clear hK K;try simp only[Act.put,List.setIfInBounds_toArray]
    replace h4:=hS4;replace X1:=qh (X1.out.row (LC0 false ⟨#[]⟩ 0));replace X2:=qh (X2.out.off (g:=b+1) (by omega) (LC0 false ⟨#[]⟩ 0));replace X3:=qh (X3.out.off (g:=b+1) (by omega) (LC0 false ⟨#[]⟩ 0));replace HKW:=qh (Kept.row HKW.out (show w.heap.size≤b+1 by have:=HB.out;omega) (LC0 false ⟨#[]⟩ 0));replace HSM:Hid (∀k,¬(b+1≤k∧k≤ca)→(World.setRow w11.drew (b+1) (LC0 false ⟨#[]⟩ 0).toArray).heap[k]? =w9.heap[k]?):=qh (fun k hk=>(setRow_other _ _ _ _ (by omega)).trans (HSM.out k hk));replace HZ:Hid (w9.heap.size≤(World.setRow w11.drew (b+1) (LC0 false ⟨#[]⟩ 0).toArray).heap.size):=qh (Nat.le_trans HZ.out (Nat.le_of_eq (setRow_size _ _ _).symm));clear hS4;generalize World.setRow _ (b+1) _=wr1 at *;refine oS 5 fun K hK=>?_;(refine qaH rfl (qaa (vs:=(LC0 false ⟨#[]⟩ 0)) (b:=b+2) (n:=3) _ _ rfl rfl rfl X2.out rfl rfl (by kernel_rfl) rfl ?_);have hS5:=Bx.off h4 (g:=b+2) (by omega) (LC0 false ⟨#[]⟩ 0))
    refine hK.out _ _ ?_ (fun hHeld=>?_)
    ·assumption
    clear hK K;try simp only[Act.put,List.setIfInBounds_toArray]
    replace h4:=hS5;replace X2:=qh (X2.out.row (LC0 false ⟨#[]⟩ 0));replace X1:=qh (X1.out.off (g:=b+2) (by omega) (LC0 false ⟨#[]⟩ 0));replace X3:=qh (X3.out.off (g:=b+2) (by omega) (LC0 false ⟨#[]⟩ 0));replace HKW:=qh (Kept.row HKW.out (show w.heap.size≤b+2 by have:=HB.out;omega) (LC0 false ⟨#[]⟩ 0));replace HSM:Hid (∀k,¬(b+1≤k∧k≤ca)→(World.setRow wr1 (b+2) (LC0 false ⟨#[]⟩ 0).toArray).heap[k]? =w9.heap[k]?):=qh (fun k hk=>(setRow_other _ _ _ _ (by omega)).trans (HSM.out k hk));replace HZ:Hid (w9.heap.size≤(World.setRow wr1 (b+2) (LC0 false ⟨#[]⟩ 0).toArray).heap.size):=qh (Nat.le_trans HZ.out (Nat.le_of_eq (setRow_size _ _ _).symm));clear hS5;generalize World.setRow _ (b+2) _=wr2 at *;refine oS 6 fun K hK=>?_;(refine qaH rfl (qaa (vs:=(LC0 false ⟨#[]⟩ 0)) (b:=b+3) (n:=3) _ _ rfl rfl rfl X3.out rfl rfl (by kernel_rfl) rfl ?_);have hS6:=Bx.off h4 (g:=b+3) (by omega) (LC0 false ⟨#[]⟩ 0))
    refine hK.out _ _ ?_ (fun hHeld=>?_)
    ·assumption
    clear hK K;try simp only[Act.put,List.setIfInBounds_toArray]
    replace h4:=hS6;replace X3:=qh (X3.out.row (LC0 false ⟨#[]⟩ 0));replace X1:=qh (X1.out.off (g:=b+3) (by omega) (LC0 false ⟨#[]⟩ 0));replace X2:=qh (X2.out.off (g:=b+3) (by omega) (LC0 false ⟨#[]⟩ 0));replace HKW:=qh (Kept.row HKW.out (show w.heap.size≤b+3 by have:=HB.out;omega) (LC0 false ⟨#[]⟩ 0));replace HSM:Hid (∀k,¬(b+1≤k∧k≤ca)→(World.setRow wr2 (b+3) (LC0 false ⟨#[]⟩ 0).toArray).heap[k]? =w9.heap[k]?):=qh (fun k hk=>(setRow_other _ _ _ _ (by omega)).trans (HSM.out k hk));replace HZ:Hid (w9.heap.size≤(World.setRow wr2 (b+3) (LC0 false ⟨#[]⟩ 0).toArray).heap.size):=qh (Nat.le_trans HZ.out (Nat.le_of_eq (setRow_size _ _ _).symm));clear hS6;generalize World.setRow _ (b+3) _=wr3 at *;have c4:=h4.c 0 rfl;have f4:=h4.f 0;refine eS 7 fun K hK=>?_;go_simp;refine hK.out _ _ ?_;clear hK K;try simp only[Act.put,tdy]
    refine dS ?_ _;refine qdS.ok ?_;have h5:=qh (h4.set 0 (.int .i64 RA.2) (by simp));replace X1:=qh (X1.out.far ⟨b+4,0,none⟩ (by show b+1≠b+4;omega) (.int .i64 RA.2));replace X2:=qh (X2.out.far ⟨b+4,0,none⟩ (by show b+2≠b+4;omega) (.int .i64 RA.2));replace X3:=qh (X3.out.far ⟨b+4,0,none⟩ (by show b+3≠b+4;omega) (.int .i64 RA.2));replace HKW:=qh (HKW.out.setCell (p:=⟨b+4,0,none⟩) (by have:=HB.out;show w.heap.size≤b+4;omega) (.int .i64 RA.2));replace HSM:Hid (∀k,¬(b+1≤k∧k≤ca)→(World.setCell wr3 ⟨b+4,0,none⟩ (.int .i64 RA.2)).heap[k]? =w9.heap[k]?):=qh fun k hk=>(heap_setCell (by omega) _ _).trans (HSM.out k hk);replace HZ:Hid (w9.heap.size≤(World.setCell wr3 ⟨b+4,0,none⟩ (.int .i64 RA.2)).heap.size):=qh (show w9.heap.size≤(World.setCell wr3 ⟨b+4,0,none⟩ (.int .i64 RA.2)).heap.size by simpa [World.setCell] using HZ.out);clear h4 c4 f4;generalize World.setCell wr3 _ _=wz at *;gi_wp2_with fail
    obtain⟨r1,-⟩:=qfz HLA.out K9.out HSM.out HZ.out;refine⟨r1,rfl,HKW.out,X1.out,X2.out,X3.out,?_,HST2.out⟩;have h:=h5.out;rw[show RA.2=4 from h4e.out]at h;exact h
  ·skip
   (refine qaH rfl (wp_store_mid _ _ _ rfl ca (td*3) (dyL RA.1).toArray rfl rfl hTH (by kernel_rfl) (all_oneCell_toArray (fun v hv=>List.all_eq_true.1 (show(dyL RA.1).all Value.oneCell'=true from rfl) v hv)) ?_))
   refine hK.out _ _ ?_ (fun hHeld=>?_)
   ·assumption
   clear hK K;try simp only[Act.put,List.setIfInBounds_toArray]
   refine oS 10 fun K hK=>?_;go_simp;refine hK.out _ _ ?_ (fun hHeld=>?_)
   ·assumption
   clear hK K;try simp only[Act.put,tdy]
   have K9:=qh (HKD.out.trans' HK9.out);have HLC:=HCA.out;have PT:=qh ((HI.out.ptr.kept K9.out).qbh (g:=ca) (by omega) (dyL RA.1) (td*3));have X1:=qh ((HI.out.x.kept K9.out).qbh (g:=ca) (by omega) (dyL RA.1) (td*3));have X2:=qh ((HI.out.y.kept K9.out).qbh (g:=ca) (by omega) (dyL RA.1) (td*3));have X3:=qh ((HI.out.z.kept K9.out).qbh (g:=ca) (by omega) (dyL RA.1) (td*3));have X4:=qh ((HI.out.e.kept K9.out).qbh (g:=ca) (by omega) (dyL RA.1) (td*3));have BC:=qh (show Bx _ ca (qdJ (A.set td RA.1)) by(rw[←qhr HAC.out.len (by omega)];exact hCA9.setCells (dyL RA.1) (td*3) (by rw[qct HAC.out.len];show td*3+3≤9;omega)));have HKW:=qh (Kept.setCells (g:=ca) (by have:=HB.out;omega) (dyL RA.1) (td*3) (HI.out.kept.trans' K9.out));have HSM:Hid (∀k,k≠ca→(World.setCells w9 ca (td*3) (dyL RA.1)).heap[k]? =w9.heap[k]?):=qh fun k hk=>qd0 hk _ _ _;have HZ:=qh (Nat.le_of_eq (size_setCells (g:=ca) (dyL RA.1) w9 (td*3)).symm);generalize World.setCells w9 ca _ _=w10 at *;have c4:=X4.out.c 0 rfl;have f4:=X4.out.f 0;refine eS 13 fun K hK=>?_;go_simp;refine hK.out _ _ ?_;clear hK K;try simp only[Act.put,tdy]
   refine dS ?_ _;refine qdS.ok ?_;have E4:=qh (X4.out.set 0 (.int .i64 RA.2) (by simp));replace PT:=qh (PT.out.far ⟨b+4,0,none⟩ (by show b≠b+4;omega) (.int .i64 RA.2));replace X1:=qh (X1.out.far ⟨b+4,0,none⟩ (by show b+1≠b+4;omega) (.int .i64 RA.2));replace X2:=qh (X2.out.far ⟨b+4,0,none⟩ (by show b+2≠b+4;omega) (.int .i64 RA.2));replace X3:=qh (X3.out.far ⟨b+4,0,none⟩ (by show b+3≠b+4;omega) (.int .i64 RA.2));replace BC:=qh (BC.out.far ⟨b+4,0,none⟩ (by show ca≠b+4;omega) (.int .i64 RA.2));replace HKW:=qh (HKW.out.setCell (p:=⟨b+4,0,none⟩) (by have:=HB.out;show w.heap.size≤b+4;omega) (.int .i64 RA.2));replace HSM:Hid (∀k,¬(b+1≤k∧k≤ca)→(World.setCell w10 ⟨b+4,0,none⟩ (.int .i64 RA.2)).heap[k]? =w9.heap[k]?):=qh fun k hk=>(heap_setCell (by omega) _ _).trans (HSM.out k (by omega));replace HZ:=qh (show w9.heap.size≤(World.setCell w10 ⟨b+4,0,none⟩ (.int .i64 RA.2)).heap.size by simpa [World.setCell] using HZ.out);clear X4 c4 f4 hS0 hS9 hS10 hTH hCA0 hCA9 BY BD HBA HADR HRG HK9 hHeld;generalize World.setCell w10 _ _=w11 at *;have c4:w11.cell? ⟨b+4,0,none⟩=some (.int .i64 RA.2):=E4.out.c 0 rfl;by_cases he:RA.2=0
   ·have HACN:=qh (HNE.out he)
    have e0:(RA.2 != 0)=false:=by(simp;exact he)
    gi_wp2_with fail
    obtain⟨r1,r2⟩:=qfz HLA.out K9.out HSM.out HZ.out;refine⟨r1,r2,HKW.out,PT.out,X1.out,X2.out,X3.out,?_,A.set td RA.1,HACN.out,BC.out⟩;have h:=E4.out;rw[he]at h;exact h
   ·have e0:(RA.2 != 0)=true:=by simpa using he
    have HST2:=qh (HST.out he);have h4e:Hid (RA.2=4):=qh (by(rcases HRL.out with h|h;exact absurd h he;rw[h]));gi_wp2_with fail
    have h4:Bx w11.drew (b+4) [.int .i64 RA.2]:=E4.out.kept (show Kept w11 w11.drew from(Below.refl _ w11).drew);replace X1:=qh (X1.out.kept (show Kept w11 w11.drew from(Below.refl _ w11).drew));replace X2:=qh (X2.out.kept (show Kept w11 w11.drew from(Below.refl _ w11).drew));replace X3:=qh (X3.out.kept (show Kept w11 w11.drew from(Below.refl _ w11).drew));replace HKW:=qh ((show Kept w w11 from HKW.out).trans' (show Kept w11 w11.drew from(Below.refl _ w11).drew));replace HSM:Hid (∀k,¬(b+1≤k∧k≤ca)→w11.drew.heap[k]? =w9.heap[k]?):=HSM;replace HZ:Hid (w9.heap.size≤w11.drew.heap.size):=HZ;clear E4 PT BC c4;refine qcR (fun Z=>Bx Z (b+4) [.int .i64 RA.2]) [7] (by kernel_rfl) (by kernel_rfl) ?_ (fun hHeld=>?_)
    ·assumption
    refine yS (v:=.agg #[.bool false,.string ⟨#[]⟩,.int .i64 0]) 0 46 ?_ ?_
    ·intro w hSw;exact qbn (LC0 false ⟨#[]⟩ 0) rfl (by kernel_rfl)
    try simp only[Act.put,tdy]
    refine yS (v:=.agg #[.bool false,.string ⟨#[]⟩,.int .i64 0]) 1 47 ?_ ?_
    ·intro w hSw;exact qbn (LC0 false ⟨#[]⟩ 0) rfl (by kernel_rfl)
    try simp only[Act.put,tdy]
    refine yS (v:=.agg #[.bool false,.string ⟨#[]⟩,.int .i64 0]) 2 48 ?_ ?_
    ·intro w hSw;exact qbn (LC0 false ⟨#[]⟩ 0) rfl (by kernel_rfl)
    try simp only[Act.put,tdy]
    refine wS 3 49 ?_ (hy:=fun w hSw=>by have y7:=hSw.c 0 rfl;go_simp;(try with_reducible rfl));refine oS 4 fun K hK=>?_;(refine qaH rfl (qaa (vs:=(LC0 false ⟨#[]⟩ 0)) (b:=b+1) (n:=3) _ _ rfl rfl rfl X1.out rfl rfl (by kernel_rfl) rfl ?_);have hS4:=Bx.off h4 (g:=b+1) (by omega) (LC0 false ⟨#[]⟩ 0))
    refine hK.out _ _ ?_ (fun hHeld=>?_)
    ·assumption
    clear hK K;try simp only[Act.put,List.setIfInBounds_toArray]
    replace h4:=hS4;replace X1:=qh (X1.out.row (LC0 false ⟨#[]⟩ 0));replace X2:=qh (X2.out.off (g:=b+1) (by omega) (LC0 false ⟨#[]⟩ 0));replace X3:=qh (X3.out.off (g:=b+1) (by omega) (LC0 false ⟨#[]⟩ 0));replace HKW:=qh (Kept.row HKW.out (show w.heap.size≤b+1 by have:=HB.out;omega) (LC0 false ⟨#[]⟩ 0));replace HSM:Hid (∀k,¬(b+1≤k∧k≤ca)→(World.setRow w11.drew (b+1) (LC0 false ⟨#[]⟩ 0).toArray).heap[k]? =w9.heap[k]?):=qh (fun k hk=>(setRow_other _ _ _ _ (by omega)).trans (HSM.out k hk));replace HZ:Hid (w9.heap.size≤(World.setRow w11.drew (b+1) (LC0 false ⟨#[]⟩ 0).toArray).heap.size):=qh (Nat.le_trans HZ.out (Nat.le_of_eq (setRow_size _ _ _).symm));clear hS4;generalize World.setRow _ (b+1) _=wr1 at *;refine oS 5 fun K hK=>?_;(refine qaH rfl (qaa (vs:=(LC0 false ⟨#[]⟩ 0)) (b:=b+2) (n:=3) _ _ rfl rfl rfl X2.out rfl rfl (by kernel_rfl) rfl ?_);have hS5:=Bx.off h4 (g:=b+2) (by omega) (LC0 false ⟨#[]⟩ 0))
    refine hK.out _ _ ?_ (fun hHeld=>?_)
    ·assumption
    clear hK K;try simp only[Act.put,List.setIfInBounds_toArray]
    replace h4:=hS5;replace X2:=qh (X2.out.row (LC0 false ⟨#[]⟩ 0));replace X1:=qh (X1.out.off (g:=b+2) (by omega) (LC0 false ⟨#[]⟩ 0));replace X3:=qh (X3.out.off (g:=b+2) (by omega) (LC0 false ⟨#[]⟩ 0));replace HKW:=qh (Kept.row HKW.out (show w.heap.size≤b+2 by have:=HB.out;omega) (LC0 false ⟨#[]⟩ 0));replace HSM:Hid (∀k,¬(b+1≤k∧k≤ca)→(World.setRow wr1 (b+2) (LC0 false ⟨#[]⟩ 0).toArray).heap[k]? =w9.heap[k]?):=qh (fun k hk=>(setRow_other _ _ _ _ (by omega)).trans (HSM.out k hk));replace HZ:Hid (w9.heap.size≤(World.setRow wr1 (b+2) (LC0 false ⟨#[]⟩ 0).toArray).heap.size):=qh (Nat.le_trans HZ.out (Nat.le_of_eq (setRow_size _ _ _).symm));clear hS5;generalize World.setRow _ (b+2) _=wr2 at *;refine oS 6 fun K hK=>?_;(refine qaH rfl (qaa (vs:=(LC0 false ⟨#[]⟩ 0)) (b:=b+3) (n:=3) _ _ rfl rfl rfl X3.out rfl rfl (by kernel_rfl) rfl ?_);have hS6:=Bx.off h4 (g:=b+3) (by omega) (LC0 false ⟨#[]⟩ 0))
    refine hK.out _ _ ?_ (fun hHeld=>?_)
    ·assumption
    clear hK K;try simp only[Act.put,List.setIfInBounds_toArray]
    replace h4:=hS6;replace X3:=qh (X3.out.row (LC0 false ⟨#[]⟩ 0));replace X1:=qh (X1.out.off (g:=b+3) (by omega) (LC0 false ⟨#[]⟩ 0));replace X2:=qh (X2.out.off (g:=b+3) (by omega) (LC0 false ⟨#[]⟩ 0));replace HKW:=qh (Kept.row HKW.out (show w.heap.size≤b+3 by have:=HB.out;omega) (LC0 false ⟨#[]⟩ 0));replace HSM:Hid (∀k,¬(b+1≤k∧k≤ca)→(World.setRow wr2 (b+3) (LC0 false ⟨#[]⟩ 0).toArray).heap[k]? =w9.heap[k]?):=qh (fun k hk=>(setRow_other _ _ _ _ (by omega)).trans (HSM.out k hk));replace HZ:Hid (w9.heap.size≤(World.setRow wr2 (b+3) (LC0 false ⟨#[]⟩ 0).toArray).heap.size):=qh (Nat.le_trans HZ.out (Nat.le_of_eq (setRow_size _ _ _).symm));clear hS6;generalize World.setRow _ (b+3) _=wr3 at *;have c4:=h4.c 0 rfl;have f4:=h4.f 0;refine eS 7 fun K hK=>?_;go_simp;refine hK.out _ _ ?_;clear hK K;try simp only[Act.put,tdy]
    refine dS ?_ _;refine qdS.ok ?_;have h5:=qh (h4.set 0 (.int .i64 RA.2) (by simp));replace X1:=qh (X1.out.far ⟨b+4,0,none⟩ (by show b+1≠b+4;omega) (.int .i64 RA.2));replace X2:=qh (X2.out.far ⟨b+4,0,none⟩ (by show b+2≠b+4;omega) (.int .i64 RA.2));replace X3:=qh (X3.out.far ⟨b+4,0,none⟩ (by show b+3≠b+4;omega) (.int .i64 RA.2));replace HKW:=qh (HKW.out.setCell (p:=⟨b+4,0,none⟩) (by have:=HB.out;show w.heap.size≤b+4;omega) (.int .i64 RA.2));replace HSM:Hid (∀k,¬(b+1≤k∧k≤ca)→(World.setCell wr3 ⟨b+4,0,none⟩ (.int .i64 RA.2)).heap[k]? =w9.heap[k]?):=qh fun k hk=>(heap_setCell (by omega) _ _).trans (HSM.out k hk);replace HZ:Hid (w9.heap.size≤(World.setCell wr3 ⟨b+4,0,none⟩ (.int .i64 RA.2)).heap.size):=qh (show w9.heap.size≤(World.setCell wr3 ⟨b+4,0,none⟩ (.int .i64 RA.2)).heap.size by simpa [World.setCell] using HZ.out);clear h4 c4 f4;generalize World.setCell wr3 _ _=wz at *;gi_wp2_with fail
    obtain⟨r1,-⟩:=qfz HLA.out K9.out HSM.out HZ.out;refine⟨r1,rfl,HKW.out,X1.out,X2.out,X3.out,?_,HST2.out⟩;have h:=h5.out;rw[show RA.2=4 from h4e.out]at h;exact h
 case done=>
  rintro D xs W hD rfl hI hDef;rw[HA.out];dsimp only;obtain⟨A,hacc,hba⟩:=hI.acc;have HI:=qh hI;have HDD:=qh hDef;have HDL:=qh hD;have HAC:=qh hacc;have KD:Kept W W.drew:=(Below.refl _ W).drew;have hS0:Bx W.drew ca (qdJ A):=hba.kept KD;have X1:=qh (HI.out.x.kept KD);have X2:=qh (HI.out.y.kept KD);have X3:=qh (HI.out.z.kept KD);have X4:=qh (HI.out.e.kept KD);have HKW:=qh (HI.out.kept.trans' KD);replace HDD:Hid (W.drew.heap[D]? =some (.deferred (some []))):=HDD
  obtain⟨D0,D1,D2,rfl⟩: ∃D0 D1 D2,A=[D0,D1,D2]:=by
   have:=hacc.len;rcases A with _|⟨D0,_|⟨D1,_|⟨D2,_|⟨D3,A⟩⟩⟩⟩<;>first|exact⟨_,_,_,rfl⟩|(simp at this)
  clear hI hD hDef hacc hba hev KD;have hSA:=hS0;go_upto_region 11 with fail
  refine qac (fun Z=>Bx Z ca (qdJ [D0,D1,D2])) [9] (by kernel_rfl) ?_ (fun hHeld=>?_)
  ·assumption
  refine wS 0 50 ?_;refine yS (v:=.agg (dyL D1).toArray) 1 51 ?_ ?_
  ·intro w hSw;(try dsimp only at hSw);exact qa5 (vs:=dyL D1) (off:=3) _ rfl rfl (hSw.range (o:=3) (cs:=dyL D1) (qea (A:=[D0,D1,D2]) rfl (t:=1) (by decide))) underlying24 rfl (by kernel_rfl)
  try simp only[Act.put,tdy]
  refine wS 2 52 ?_;refine yS (v:=.agg (dyL D2).toArray) 3 53 ?_ ?_
  ·intro w hSw;(try dsimp only at hSw);exact qa5 (vs:=dyL D2) (off:=6) _ rfl rfl (hSw.range (o:=6) (cs:=dyL D2) (qea (A:=[D0,D1,D2]) rfl (t:=2) (by decide))) underlying24 rfl (by kernel_rfl)
  try simp only[Act.put,tdy]
  refine wS 4 54 ?_;refine yS (v:=.agg (dyL D0).toArray) 5 55 ?_ ?_
  ·intro w hSw;(try dsimp only at hSw);exact qa5 (vs:=dyL D0) (off:=0) _ rfl rfl (hSw.range (o:=0) (cs:=dyL D0) (qea (A:=[D0,D1,D2]) rfl (t:=0) (by decide))) underlying24 rfl (by kernel_rfl)
  try simp only[Act.put,tdy]
  refine oS 6 fun K hK=>?_;(refine qaH rfl (qaa (vs:=dyL D1) (b:=b+1) (n:=3) _ _ rfl rfl rfl X1.out rfl rfl (by kernel_rfl) rfl ?_);have hS6:Bx (World.setRow W.drew (b+1) (dyL D1).toArray) ca (qdJ [D0,D1,D2]):=Bx.off hSA (g:=b+1) (by have:=HCA.out;omega) (dyL D1))
  refine hK.out _ _ ?_ (fun hHeld=>?_)
  ·assumption
  clear hK K;try simp only[Act.put,List.setIfInBounds_toArray]
  replace hSA:=hS6;replace X1:=qh (X1.out.row (dyL D1));replace X2:=qh (X2.out.off (g:=b+1) (by omega) (dyL D1));replace X3:=qh (X3.out.off (g:=b+1) (by omega) (dyL D1));replace X4:=qh (X4.out.off (g:=b+1) (by omega) (dyL D1));replace HKW:=qh (Kept.row HKW.out (show w.heap.size≤b+1 by have:=HB.out;omega) (dyL D1));replace HDD:Hid ((World.setRow W.drew (b+1) (dyL D1).toArray).heap[D]? =some (.deferred (some []))):=qh ((setRow_other _ _ _ _ (by have:=HDL.out;have:=HCA.out;have:=HLA.out;omega)).trans HDD.out);clear hS6;generalize World.setRow _ (b+1) _=wr1 at *;refine oS 7 fun K hK=>?_;(refine qaH rfl (qaa (vs:=dyL D2) (b:=b+2) (n:=3) _ _ rfl rfl rfl X2.out rfl rfl (by kernel_rfl) rfl ?_);have hS7:Bx (World.setRow wr1 (b+2) (dyL D2).toArray) ca (qdJ [D0,D1,D2]):=Bx.off hSA (g:=b+2) (by have:=HCA.out;omega) (dyL D2))
  refine hK.out _ _ ?_ (fun hHeld=>?_)
  ·assumption
  clear hK K;try simp only[Act.put,List.setIfInBounds_toArray]
  replace hSA:=hS7;replace X2:=qh (X2.out.row (dyL D2));replace X1:=qh (X1.out.off (g:=b+2) (by omega) (dyL D2));replace X3:=qh (X3.out.off (g:=b+2) (by omega) (dyL D2));replace X4:=qh (X4.out.off (g:=b+2) (by omega) (dyL D2));replace HKW:=qh (Kept.row HKW.out (show w.heap.size≤b+2 by have:=HB.out;omega) (dyL D2));replace HDD:Hid ((World.setRow wr1 (b+2) (dyL D2).toArray).heap[D]? =some (.deferred (some []))):=qh ((setRow_other _ _ _ _ (by have:=HDL.out;have:=HCA.out;have:=HLA.out;omega)).trans HDD.out);clear hS7;generalize World.setRow _ (b+2) _=wr2 at *;refine oS 8 fun K hK=>?_;(refine qaH rfl (qaa (vs:=dyL D0) (b:=b+3) (n:=3) _ _ rfl rfl rfl X3.out rfl rfl (by kernel_rfl) rfl ?_);have hS8:Bx (World.setRow wr2 (b+3) (dyL D0).toArray) ca (qdJ [D0,D1,D2]):=Bx.off hSA (g:=b+3) (by have:=HCA.out;omega) (dyL D0))
  refine hK.out _ _ ?_ (fun hHeld=>?_)
  ·assumption
  clear hK K;try simp only[Act.put,List.setIfInBounds_toArray]
  replace hSA:=hS8;replace X3:=qh (X3.out.row (dyL D0));replace X1:=qh (X1.out.off (g:=b+3) (by omega) (dyL D0));replace X2:=qh (X2.out.off (g:=b+3) (by omega) (dyL D0));replace X4:=qh (X4.out.off (g:=b+3) (by omega) (dyL D0));replace HKW:=qh (Kept.row HKW.out (show w.heap.size≤b+3 by have:=HB.out;omega) (dyL D0));replace HDD:Hid ((World.setRow wr2 (b+3) (dyL D0).toArray).heap[D]? =some (.deferred (some []))):=qh ((setRow_other _ _ _ _ (by have:=HDL.out;have:=HCA.out;have:=HLA.out;omega)).trans HDD.out);clear hS8;generalize World.setRow _ (b+3) _=wr3 at *;have c4:=X4.out.c 0 rfl;have f4:=X4.out.f 0;refine eS 9 fun K hK=>?_;go_simp;refine hK.out _ _ ?_;clear hK K;try simp only[Act.put,tdy]
  refine dS ?_ _;have h5:=qh (X4.out.set 0 (.int .i64 0) (by simp));replace X1:=qh (X1.out.far ⟨b+4,0,none⟩ (by show b+1≠b+4;omega) (.int .i64 0));replace X2:=qh (X2.out.far ⟨b+4,0,none⟩ (by show b+2≠b+4;omega) (.int .i64 0));replace X3:=qh (X3.out.far ⟨b+4,0,none⟩ (by show b+3≠b+4;omega) (.int .i64 0));replace HKW:=qh (HKW.out.setCell (p:=⟨b+4,0,none⟩) (by have:=HB.out;show w.heap.size≤b+4;omega) (.int .i64 0));replace HDD:Hid ((World.setCell wr3 ⟨b+4,0,none⟩ (.int .i64 0)).heap[D]? =some (.deferred (some []))):=qh ((heap_setCell (by have:=HDL.out;have:=HCA.out;have:=HLA.out;omega) _ _).trans HDD.out);clear X4 c4 f4;generalize World.setCell wr3 _ _=wz at *;go_wp2_with fail
  refine qbo (lo:=w2.heap.size) _ _ ⟨D,rfl,HDL.out,HDD.out,by simp,trivial⟩ (fun W' hb hcc=>?_) (by have:=(Array.getElem?_eq_some_iff.1 HDD.out).1;have:=HDL.out;omega);refine⟨_,qeh results45 underlying24 rfl (by kernel_rfl) rfl rfl rfl rfl (X1.out.stay hcc) (X2.out.stay hcc) (X3.out.stay hcc) (qfh ((h5.out.stay hcc).c 0 rfl)) rfl rfl rfl,?_,HKW.out.trans (hb.mono HSZ.out)⟩;rw[HAC.out.sum];rfl
 case stop=>
  rintro D c pre W hD ⟨tl,htl⟩ ⟨rfl,hX⟩ hDef;rw[HA.out];dsimp only;have HX:=qh hX;have HDD:=qh hDef;have HDL:=qh hD;have HTL:=qh htl;clear hX hDef hD htl hev;gi_wp2_with fail
  refine qbo (lo:=w2.heap.size) _ _ ⟨D,rfl,HDL.out,HDD.out,by simp,trivial⟩ (fun W' hb hcc=>?_) (by have:=(Array.getElem?_eq_some_iff.1 HDD.out).1;have:=HDL.out;omega);refine⟨_,qeh results45 underlying24 rfl (by kernel_rfl) rfl rfl rfl rfl (HX.out.x.stay hcc) (HX.out.y.stay hcc) (HX.out.z.stay hcc) (qfh ((HX.out.e.stay hcc).c 0 rfl)) rfl rfl rfl,?_,HX.out.kept.trans (hb.mono HSZ.out)⟩;rw[HTL.out,List.map_append,HX.out.none];rfl
end
theorem qd5 {P:Program} {W:World} {d:Nat} {xs:Array Value}: ∀(fs:List Field),(∀q∈fs.map (fun f=>(f.type,f.offset)),∃a,(part q.1 xs q.2).run P W=.ok a W∧(Op.equalIn d q.1 a a).run P W=.ok true W)→(Op.eqFields d xs xs fs).run P W=.ok true W
 |[],_=>by simp[Op.eqFields]
 |f::fs,h=>by
  obtain⟨a,h1,h2⟩:=h (f.type,f.offset) (by simp);have ih:=qd5 fs (fun q hq=>h q (List.mem_cons_of_mem _ hq));simp only[Op.eqFields];split
  ·simp only[Sem.run_bind,h1,h2,Result.andThen_ok]
   simpa using ih
  ·exact ih
theorem qd9 (a:Bool) (s:ByteArray) (e:Int) (d:Nat) (W:World):(Op.equalIn (d+2) 24 (.agg #[.bool a,.string s,.int .i64 e]) (.agg #[.bool a,.string s,.int .i64 e])).run prog W=.ok true W:=by
 have h1:prog.stoodInHeld 24=false:=by kernel_rfl
 have h2:prog.underlying 24=some (.struct (prog.fieldsOf 24)):=by kernel_rfl
 have h3:((prog.fieldsOf 24).toList.map (fun f=>(f.type,f.offset)))=[(4,0),(22,1),(3,2)]:=by kernel_rfl
 rw[show d+2=(d+1)+1 from rfl,run_equalIn_agg W (d+1) 24 _ _ h2 h1];refine qd5 _ fun q hq=>?_;rw[h3]at hq;have hb:prog.plainKey 4=true:=by kernel_rfl
 have hs:prog.plainKey 22=true:=by kernel_rfl
 have hi:prog.plainKey 3=true:=by kernel_rfl
 simp only[List.mem_cons,List.mem_singleton,List.not_mem_nil,or_false]at hq;rcases hq with rfl|rfl|rfl
 ·exact⟨.bool a,run_part_plain (P:=prog) (w:=W) hb rfl,by rw[run_equalIn_bool' (P:=prog) W d 4 a a underlying4];simp⟩
 ·exact⟨.string s,run_part_plain (P:=prog) (w:=W) hs rfl,by rw[run_equalIn_string (P:=prog) W d 22 s s (by kernel_rfl)];simp⟩
 ·exact⟨.int .i64 e,run_part_plain (P:=prog) (w:=W) hi rfl,by rw[run_equalIn_int (P:=prog) W d 3 .i64 .i64 e e underlying3];simp⟩
theorem qiX (s:SqD) (d:Nat) (W:World):(Op.equalIn (d+3) 26 (.agg (qal s).toArray) (.agg (qal s).toArray)).run prog W=.ok true W:=by
 have h1:prog.stoodInHeld 26=false:=by kernel_rfl
 have h2:prog.underlying 26=some (.struct (prog.fieldsOf 26)):=by kernel_rfl
 have h3:((prog.fieldsOf 26).toList.map (fun f=>(f.type,f.offset)))=[(24,0),(24,3),(3,6)]:=by kernel_rfl
 rw[show d+3=(d+2)+1 from rfl,run_equalIn_agg W (d+2) 26 _ _ h2 h1];refine qd5 _ fun q hq=>?_;rw[h3]at hq;have hi:prog.plainKey 3=true:=by kernel_rfl
 simp only[List.mem_cons,List.mem_singleton,List.not_mem_nil,or_false]at hq;rcases hq with rfl|rfl|rfl
 ·exact⟨.agg #[.bool s.left.neg,.string s.left.n,.int .i64 s.left.e],by kernel_rfl,qd9 _ _ _ d W⟩
 ·exact⟨.agg #[.bool s.low.neg,.string s.low.n,.int .i64 s.low.e],by kernel_rfl,qd9 _ _ _ d W⟩
 ·exact⟨.int .i64 s.e,run_part_plain (P:=prog) (w:=W) hi rfl,by rw[show d+2=(d+1)+1 from rfl,run_equalIn_int (P:=prog) W (d+1) 3 .i64 .i64 s.e s.e underlying3];simp⟩
theorem qgV (s:SqD) (W:World):(binOp .neq 26 (.agg (qal s).toArray) (.agg (qal s).toArray)).run prog W=.ok (.bool false) W:=by
 rw[run_neq_struct,qiX s 9997 W];rfl
theorem qfT {P:Program} {W:World} {d n:Nat} {e:TypeId} {xs:Array Value}: ∀(is:List Nat),(∀i∈is,∃a,(part e xs (i*n)).run P W=.ok a W∧(Op.equalIn d e a a).run P W=.ok true W)→(Op.eqItems d e n xs xs is).run P W=.ok true W
 |[],_=>by simp[Op.eqItems]
 |i::is,h=>by
  obtain⟨a,h1,h2⟩:=h i (by simp);have ih:=qfT is (fun q hq=>h q (List.mem_cons_of_mem _ hq));simp only[Op.eqItems,Sem.run_bind,h1,h2,Result.andThen_ok];simpa using ih
theorem qma (x y z:DyD) (W:World):(binOp .neq 112 (.agg (dyL x++dyL y++dyL z).toArray) (.agg (dyL x++dyL y++dyL z).toArray)).run prog W=.ok (.bool false) W:=by
 obtain⟨i,hi,-,-,-⟩:=info_parts (show(prog.info? 24).map (fun i=>(i.zero,i.size,i.bytes))=some (some (.agg #[.bool false,.string ⟨#[]⟩,.int .i64 0]),3,32) by kernel_rfl);have hc:prog.cellsOf 24=3:=by kernel_rfl
 have e:(Op.equalIn (9999+1) 112 (.agg (dyL x++dyL y++dyL z).toArray) (.agg (dyL x++dyL y++dyL z).toArray)).run prog W=.ok true W:=by
  rw[run_equalIn_array W 9999 _ _ underlying112 hi,hc,show List.range 3=[0,1,2]from rfl];refine qfT _ fun i hi=>?_;simp only[List.mem_cons,List.mem_singleton,List.not_mem_nil,or_false]at hi;rcases hi with rfl|rfl|rfl
  ·exact⟨.agg #[.bool x.neg,.string x.n,.int .i64 x.e],by kernel_rfl,qd9 _ _ _ 9997 W⟩
  ·exact⟨.agg #[.bool y.neg,.string y.n,.int .i64 y.e],by kernel_rfl,qd9 _ _ _ 9997 W⟩
  ·exact⟨.agg #[.bool z.neg,.string z.n,.int .i64 z.e],by kernel_rfl,qd9 _ _ _ 9997 W⟩
 rw[run_neq_struct,show(10000:Nat)=9999+1 from rfl,e];rfl
theorem qhl {F:Fence} {n:Nat} {P:Program} {fn:Func} {tmps:Array Value} {R:Ending→World→Prop} {lo:Nat} {w W:World} {b:Nat} {x:Value} (ds:List Deferred) (hds:Defs lo W ds) (hc:W.cell? ⟨b,0,none⟩=some x) (hk:Kept w W) (hw:w.heap.size≤lo)
  (hres: ∀W',W'.cell? ⟨b,0,none⟩=some x→(results fn tmps).run P W'=.ok x W') (hR: ∀W',Kept w W'→R (.returned x) W') (hlo:lo≤W.heap.size:=by omega):LeavesInM F n P fn tmps R ds .returning W:=by
 refine qbo (lo:=lo) ds W hds (fun W' hb hcc=>?_) hlo;obtain⟨o,ho,hco⟩:=cells_of_cell hc;have h:=(World.cell?_of_block (a:=⟨b,0,none⟩) ((hcc b o ho hco).trans ho.symm)).trans hc;exact⟨x,hres W' h,hR W' (hk.trans (hb.mono hw))⟩
theorem qoG {c:Code} {P:Program} {Q:Exit→Act→World→Prop} {a:Act} {w:World} (h: ∀A0,A0=a→c.wp P Q A0 w):c.wp P Q a w:=h a rfl
end Go.Proofs.YtfdnledkcongaaaGreatDoor
