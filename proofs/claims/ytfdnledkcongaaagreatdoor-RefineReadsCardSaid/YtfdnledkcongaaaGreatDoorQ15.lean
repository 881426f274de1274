/- Texts of one claim laid together: ReW, RfJ, RfK, RfD, RfL, RfO, RfQ, RfR, RfS, RfT, RfN, RfU, RfV. -/
import Derived.Test.YtfdnledkcongaaaGreatDoorQ14
import Derived.WalkMore
set_option linter.all false
namespace Go.Proofs.YtfdnledkcongaaaGreatDoor
open Go.RowKit Go.Proofs.Tryz
section
attribute [local go_sem] qaf qad
def qha (w:World) (u:RuD) (s:SqD) (bs:List UInt8) (en:Ending) (w':World):Prop:=
 Kept w w'∧if sqB s=true∧(qah s).2=0 then
  (match qbU s bs with
   |some L=> ∃p v n,en=.returned (.tuple #[.pointer (some ⟨p,0,none⟩),.int .i64 0])∧TrM w' w.heap.size p v u ⟨L,n⟩∧GoodS ⟨L,n⟩∧Whole ⟨L,n⟩
   |none=>en=.returned (.tuple #[.pointer none,.int .i64 270]))
 else∃e:Int,e≠0∧en=.returned (.tuple #[.pointer none,.int .i64 e])∧e=(qfN s).2
theorem qk0 :(findLabel (qeo f15.body) 0).isSome=true:=by kernel_rfl
theorem qkj :(findLabel (qeo f15.body) 1).isSome=true:=by kernel_rfl
theorem qpJ : ∃X,findLabel (qeo f15.body) 0=some (.seq .skip X):=⟨_,rfl⟩
theorem qpL : ∃X,findLabel (qeo f15.body) 1=some (.seq .skip X):=⟨_,rfl⟩
theorem qj9 (u:RuD) {s:SqD} (h:sqB s=true):GoodS ⟨[⟨s,0,0,none⟩],1⟩:=(qfl (u:=u) h).say (k:=0) (n:=⟨s,qbQ u s,0,none⟩) rfl (Nat.zero_le 2)
theorem qjX (u:RuD) (s:SqD):Whole ⟨[⟨s,0,0,none⟩],1⟩:=(qeR u s).say (k:=0) (n:=⟨s,qbQ u s,0,none⟩) rfl rfl 0
theorem qkE (s:SqD):RdI ⟨[⟨s,0,0,none⟩],1⟩ [0]:=⟨fun k hk=>by simp at hk;subst hk;exact⟨_,rfl,rfl,rfl⟩,by simp⟩
set_option maxRecDepth 100000 in
set_option maxHeartbeats 6400000 in
theorem qop {w:World} {u:RuD} (s:SqD) (bs:ByteArray) (hs:s.ok) (hu:u.ok) (hl:bs.size≤1200) (hT:T32 w):
  Calls prog 15 #[.agg #[.bool s.left.neg,.string s.left.n,.int .i64 s.left.e,.bool s.low.neg,.string s.low.n,.int .i64 s.low.e,.int .i64 s.e],.string bs,.iface 31 (.agg (ruL u).toArray)] w (qha w u s bs.data.toList):=by
 have hgl:=lt_of_cell (hT 0 (by omega));have CV:=qh (fun W (hk:Kept w W)=>qhR s W hs (hT.kept hk));have hif: ∀W,(binOp .eql 82 (.iface 31 (.agg (ruL u).toArray)) .nilIface).run prog W=.ok (.bool false) W:=fun W=>by kernel_rfl
 obtain⟨PP,hPP⟩: ∃PP,PP=qha w u s bs.data.toList:=⟨_,rfl⟩
 rw[←hPP];obtain⟨CB,hCB⟩: ∃CB,CB=qfN s:=⟨_,rfl⟩
 rw[←hCB]at CV
 have hgood:CB.2=0→sqB s=true∧(qah s).2=0∧CB=qah s:=fun h=>by
  rw[hCB]at h⊢;unfold qfN at h⊢;split at h
  ·rename_i h1;rw[if_pos h1];exact⟨h1,h,rfl⟩
  ·exact absurd h (show¬(240:Int)=0 by decide)
 have PX1:Hid (CB.2≠0→∀w',Kept w w'→PP (.returned (.tuple #[.pointer none,.int .i64 CB.2])) w'):=qh fun h w' hk=>by
  rw[hPP];refine⟨hk,?_⟩;rw[if_neg (fun h2=>h (by rw[hCB];unfold qfN;rw[if_pos h2.1];exact h2.2))];exact⟨_,h,rfl,by rw[hCB]⟩
 have PX0:Hid (CB.2=0→∀L w' p v n,qbU s bs.data.toList=some L→Kept w w'→TrM w' w.heap.size p v u ⟨L,n⟩→GoodS ⟨L,n⟩→Whole ⟨L,n⟩→PP (.returned (.tuple #[.pointer (some ⟨p,0,none⟩),.int .i64 0])) w'):=qh fun h L w' p v n hr hk hM h1 h2=>by
  rw[hPP];refine⟨hk,?_⟩;rw[if_pos ⟨(hgood h).1,(hgood h).2.1⟩,hr];exact⟨p,v,n,rfl,hM,h1,h2⟩
 have PX2:Hid (CB.2=0→∀w',qbU s bs.data.toList=none→Kept w w'→PP (.returned (.tuple #[.pointer none,.int .i64 270])) w'):=qh fun h w' hr hk=>by
  rw[hPP];refine⟨hk,?_⟩;rw[if_pos ⟨(hgood h).1,(hgood h).2.1⟩,hr]
 have HSQ:=qh (fun h:CB.2=0=>(hgood h).1);have HT:=qh hT;have HU:=qh hu;have HGL:=qh hgl;have HL:=qh hl;obtain⟨⟨b0,b1,b2⟩,ce⟩:=CB;obtain⟨SS,hSS⟩: ∃SS:SqD,SS=s:=⟨_,rfl⟩
 rw[←hSS]at PX0 PX2 HSQ;have HSS:=qh hSS;simp only at CV PX0 PX1 PX2 HSQ;clear hPP hgood hCB hs hu hT hgl hl hSS;obtain⟨⟨a0,a1,a2⟩,⟨a3,a4,a5⟩,a6⟩:=s;simp only at CV⊢;obtain⟨RV,hRV⟩: ∃RV:Value,RV=.agg (ruL u).toArray:=⟨_,rfl⟩
 have HRV:=qh hRV;rw[←hRV]at hif⊢;clear hRV;go_enter func15,ntmps15
 go_upto_region 1 with fail
 obtain⟨b,w1,hw,hb,B0,K1,HB⟩:=qa4 w (LC3 a0 a1 a2 a3 a4 a5 a6) 26;rw[←hw,←hb];clear hw hb;obtain⟨c0,c1,c2,c3,c4,c5,c6⟩:=B0.out.c7;by_cases hce:ce=0;rotate_left
 ·have hne:(ce != 0)=true:=by simpa using hce
  have PX:=qh (PX1.out hce);refine qf0 (fun _ _ _ _=>False) (fun _ _ _ _ h=>h.elim) ?_ (fun _ _ _ _ h=>h.elim);go_wp2_with (go_at_call 31;(with_reducible refine(CV.out _ K1.out).mono ?_);rintro e w2 ⟨rfl,hk2⟩;have K2:=qh (K1.out.trans' hk2);clear hk2 c0 c1 c2 c3 c4 c5 c6)
  exact PX.out _ (Kept.new K2.out _)
 subst hce;have Y0:=qh (PX0.out rfl);have Y2:=qh (PX2.out rfl);have HSB:=qh (HSQ.out rfl);clear PX0 PX1 PX2 HSQ;refine qf0 (RdJ w u SS bs) (fun l n a W h=>?_) ?_ (fun l n a W h=>?_)
 ·rcases h with ⟨tm,rfl,hsz,⟨rfl,-⟩|⟨rfl,-⟩⟩
  ·exact qk0
  ·exact qkj
 ·go_upto_region 6 with (go_at_call 31;(with_reducible refine(CV.out _ K1.out).mono ?_);rintro e w2 ⟨rfl,hk2⟩;have K2:=qh (K1.out.trans' hk2);have KB:=qh hk2;clear hk2 c0 c1 c2 c3 c4 c5 c6)
  have K3:=qh (Kept.new K2.out (.cells #[.complex .f64 b0 b1,.float .f64 b2] 85));have B3:=qh (B0.out.kept (Kept.new KB.out (.cells #[.complex .f64 b0 b1,.float .f64 b2] 85)));clear K2 KB;generalize w2.alloc _=w3 at *;obtain⟨c0,c1,c2,c3,c4,c5,c6⟩:=B3.out.c7;go_upto_region 8 with fail
  refine wp_region_list ?_;refine wpList_plain rfl fun K hK=>?_;go_step;refine hK _ _ ?_;clear hK K;rename_i hK2
  refine hK2 _ _ ?_;refine wp_seq (wp_label ?_);clear c0 c1 c2 c3 c4 c5 c6 hif B0 CV hK2
  refine wp_mono (Q:=qe0 (fun l a W'=> ∃m,m<bs.size-0+1∧RdJ w u SS bs l m a W') _) ?_ (fun e a W h=>by cases e with
   |goto l=>obtain⟨m,-,h⟩:=h;exact⟨m,h⟩
   |_=>exact h)
  refine qhx (by rfl) (i:=0) (vt:=.slice (some ⟨w3.heap.size,0,none⟩) 1 1) (S:=⟨[⟨SS,0,0,none⟩],1⟩) (ks:=[0]) (bs.size-0+1) rfl rfl rfl rfl rfl HL.out HU.out HT.out ?_ (fun _ _ _ _ _ h=>h) (fun tm W' p h6 h7 h=>?_) (fun tm W' h6 h7 hr hk=>?_);rotate_left
  ·obtain⟨vt',⟨L',n'⟩,q1,q2,q3,q4,q5⟩:=h
   simp only[Array.getD_eq_getD_getElem?]at h6 h7;exact bodyPost_ret (v:=.tuple #[.pointer (some ⟨p,0,none⟩),.int .i64 0]) (by simp[results,results15,go_sem,h6,h7]) rfl (Y0.out _ _ _ _ _ q1 q5 q2 q3 q4)
  ·simp only[Array.getD_eq_getD_getElem?]at h6 h7
   exact bodyPost_ret (v:=.tuple #[.pointer none,.int .i64 270]) (by simp[results,results15,go_sem,h6,h7]) rfl (Y2.out _ hr hk)
  have hz3:w.heap.size≤w3.heap.size:=K3.out.size;have hN:qbJ [(⟨SS,0,0,none⟩:NdD)]=[.bool a0,.string a1,.int .i64 a2,.bool a3,.string a4,.int .i64 a5,.int .i64 a6,.int .u8 0,.int .i64 0,.int .i64 0,.int .i64 0,.int .i64 0,.int .i64 0]:=by rw[HSS.out];rfl
  have HO:=Own.new w3 #[.bool a0,.string a1,.int .i64 a2,.bool a3,.string a4,.int .i64 a5,.int .i64 a6,.int .u8 0,.int .i64 0,.int .i64 0,.int .i64 0,.int .i64 0,.int .i64 0] 91 (0,0) 1 13 (qbJ [(⟨SS,0,0,none⟩:NdD)]) w.heap.size w3.heap.size rfl hz3 (by unfold maxLen;omega) rfl (by rw[hN]) (.inr rfl);have hK4:=Kept.new K3.out (.cells #[.bool a0,.string a1,.int .i64 a2,.bool a3,.string a4,.int .i64 a5,.int .i64 a6,.int .u8 0,.int .i64 0,.int .i64 0,.int .i64 0,.int .i64 0,.int .i64 0] 91);have hB5:=Bx.new (w3.alloc (.cells #[.bool a0,.string a1,.int .i64 a2,.bool a3,.string a4,.int .i64 a5,.int .i64 a6,.int .u8 0,.int .i64 0,.int .i64 0,.int .i64 0,.int .i64 0,.int .i64 0] 91)) [.iface 31 RV,.slice (some ⟨w3.heap.size,0,none⟩) 1 1,.int .i64 1] 94 (w3.heap.size+1) (by simp);have hK5:=Kept.new hK4 (.cells #[.iface 31 RV,.slice (some ⟨w3.heap.size,0,none⟩) 1 1,.int .i64 1] 94);have hO5:=HO.alloc (.cells #[.iface 31 RV,.slice (some ⟨w3.heap.size,0,none⟩) 1 1,.int .i64 1] 94);have HP:=Own.new ((w3.alloc (.cells #[.bool a0,.string a1,.int .i64 a2,.bool a3,.string a4,.int .i64 a5,.int .i64 a6,.int .u8 0,.int .i64 0,.int .i64 0,.int .i64 0,.int .i64 0,.int .i64 0] 91)).alloc (.cells #[.iface 31 RV,.slice (some ⟨w3.heap.size,0,none⟩) 1 1,.int .i64 1] 94)) #[.int .i64 0] 3 (0,0) 1 1 [.int .i64 0] w.heap.size (w3.heap.size+1+1) (by simp) (by omega) (by unfold maxLen;omega) rfl rfl (.inr rfl);have hKB:=Kept.new (Below.refl _ ((w3.alloc (.cells #[.bool a0,.string a1,.int .i64 a2,.bool a3,.string a4,.int .i64 a5,.int .i64 a6,.int .u8 0,.int .i64 0,.int .i64 0,.int .i64 0,.int .i64 0,.int .i64 0] 91)).alloc (.cells #[.iface 31 RV,.slice (some ⟨w3.heap.size,0,none⟩) 1 1,.int .i64 1] 94))) (.cells #[.int .i64 0] 3);refine⟨⟨by rw[←HRV.out];exact hB5.kept hKB,hO5.kept hKB,by show w.heap.size≤w3.heap.size+1;omega,fun i hi=>by cases hi;show w3.heap.size≠w3.heap.size+1;omega⟩,qj9 u HSB.out,qjX u SS,qkE SS,Nat.le_refl 1,Nat.zero_le _,Nat.le_refl 1,HP,?_,Kept.new hK5 _,rfl⟩;intro k hk hb;cases hk;rcases hb with h|h
  ·exact absurd (show w3.heap.size+1+1=w3.heap.size+1 from h) (by omega)
  ·exact absurd (show w3.heap.size=w3.heap.size+1+1 from Option.some.inj h) (by omega)
 ·obtain⟨tm,rfl,hsz,⟨rfl,rfl,hr,hk⟩|⟨rfl,p,i,vt,S,ks,hn,h1,h10,h12,hR⟩⟩:=h
  ·obtain⟨X,hX⟩:=qpJ
   show Code.wp _ ((findLabel (qeo f15.body) 0).getD Code.skip) _ _ _;rw[hX];refine wp_seq (wp_skip ?_);refine qnY hX hsz fun tm h6 h7=>?_;simp only[Array.getD_eq_getD_getElem?]at h6 h7;exact bodyPost_ret (v:=.tuple #[.pointer none,.int .i64 270]) (by simp[results,results15,go_sem,h6,h7]) rfl (Y2.out _ hr hk)
  ·obtain⟨X,hX⟩:=qpL
   show Code.wp _ ((findLabel (qeo f15.body) 1).getD Code.skip) _ _ _;rw[hX];refine wp_seq (wp_skip ?_);refine qhx hX n hn hsz h1 h10 h12 HL.out HU.out HT.out hR (fun _ _ _ _ _ h=>h) (fun tm W' p h6 h7 h=>?_) (fun tm W' h6 h7 hr hk=>?_)
   ·obtain⟨vt',⟨L',n'⟩,q1,q2,q3,q4,q5⟩:=h
    simp only[Array.getD_eq_getD_getElem?]at h6 h7;exact bodyPost_ret (v:=.tuple #[.pointer (some ⟨p,0,none⟩),.int .i64 0]) (by simp[results,results15,go_sem,h6,h7]) rfl (Y0.out _ _ _ _ _ q1 q5 q2 q3 q4)
   ·simp only[Array.getD_eq_getD_getElem?]at h6 h7
    exact bodyPost_ret (v:=.tuple #[.pointer none,.int .i64 270]) (by simp[results,results15,go_sem,h6,h7]) rfl (Y2.out _ hr hk)
end
section
set_option maxHeartbeats 3200000
set_option maxRecDepth 100000
theorem RfM.say {X:World} {base p g off c:Nat} {u:RuD} {L:List NdR} (h:RfM X base p (.slice (some ⟨g,off,none⟩) L.length c) u L) {k:Nat} {n:NdR} (hk:L[k]? =some n) (t:Nat):
  RfM (X.setCell ⟨g,off+k*14+8,none⟩ (.int .u8 (t:Int))) base p (.slice (some ⟨g,off,none⟩) L.length c) u (L.set k {n with told:=t}):=by
 have hl:=(List.getElem?_eq_some_iff.1 hk).1;have hj:k*14+8<L.length*14:=by omega
 have hne:g≠p:=h.off g rfl;refine⟨h.box.far _ (fun e=>hne e.symm) _,?_,h.ge,h.off⟩;have ho:=h.own.put hj (.int .u8 (t:Int));rw[qgW L k n {n with told:=t} 8 (.int .u8 (t:Int)) hk (by omega) rfl]at ho;show Own _ base 14 _ (L.set k _).length (qd2 (L.set k _));rw[List.length_set,Nat.add_assoc];exact ho
def qoV (p:Nat) (v:Value) (w:World) (en:Ending) (w':World):Prop:=en=.returned (.tuple #[.int .i64 0,.bool false])∧Far (TrB p v) w w'
theorem qjT {w:World} {p k i:Nat} {v:Value} {bs:ByteArray} (hi:bs.size≤i):
  Calls prog 42 #[.pointer (some ⟨p,0,none⟩),.int .i64 (k:Int),.string bs,.int .i64 (i:Int)] w (qoV p v w):=by
 have hle:(bs.size:Int)≤(i:Int):=by omega
 go_enter func42,ntmps42
 go_wp2_with fail
 exact bodyPost_ret (v:=.tuple #[.int .i64 0,.bool false]) (by simp[results,results42,go_sem]) rfl ⟨rfl,Far.qcc (Below.refl _ _)⟩
theorem qmX {w:World} {p k i:Nat} {v:Value} {bs:ByteArray} (hl:bs.size≤1200) {x:UInt8} (hx:bs.data.toList[i]? =some x) (ht:toldOf x=none) (hp:x≠112):
  Calls prog 42 #[.pointer (some ⟨p,0,none⟩),.int .i64 (k:Int),.string bs,.int .i64 (i:Int)] w (qoV p v w):=by
 obtain⟨hi,hxe⟩:=List.getElem?_eq_some_iff.1 hx;have hi:i<bs.size:=hi;have hxg:bs[i]'hi=x:=hxe;have hiI:(i:Int)<(bs.size:Int):=by omega
 have hi0:(0:Int)≤(i:Int):=by omega
 have hge: ¬(bs.size:Int)≤(i:Int):=by omega
 have ewi0:IntKind.i64.wrap (i:Int)=(i:Int):=by rw[IntWalk.i64_in _ (by omega)]
 rcases qgQ x with hx3|hxp|⟨-,-,y1,y2,y3,y4⟩
 ·rcases hx3 with rfl|rfl|rfl<;>cases ht
 ·exact absurd hxp hp
 have hxn:(bs[i]'hi).toNat=x.toNat:=by rw[hxg]
 clear hxg hxe hx;go_enter func42,ntmps42
 go_wp2_with fail
 exact bodyPost_ret (v:=.tuple #[.int .i64 0,.bool false]) (by simp[results,results42,go_sem]) rfl ⟨rfl,Far.qcc (Below.refl _ _)⟩
def qnW (base p:Nat) (v:Value) (u:RuD) (L:List NdR) (k t i:Nat) (n:NdR) (w:World) (en:Ending) (w':World):Prop:=
 en=.returned (.tuple #[.int .i64 ((i+1:Nat):Int),.bool true])∧RfM w' base p v u (L.set k {n with told:=t})∧Far (TrB p v) w w'
theorem qld {w:World} {base p k i:Nat} {v:Value} {u:RuD} {L:List NdR} {n:NdR} {bs:ByteArray} (hM:RfM w base p v u L) (hk:L[k]? =some n) (h0:n.told=0) (hl:bs.size≤1200) {x:UInt8} {t:Nat} (hx:bs.data.toList[i]? =some x) (ht:toldOf x=some t):
  Calls prog 42 #[.pointer (some ⟨p,0,none⟩),.int .i64 (k:Int),.string bs,.int .i64 (i:Int)] w (qnW base p v u L k t i n w):=by
 obtain⟨hi,hxe⟩:=List.getElem?_eq_some_iff.1 hx;have hi:i<bs.size:=hi;have hxg:bs[i]'hi=x:=hxe;have hkl:=(List.getElem?_eq_some_iff.1 hk).1;obtain⟨gt,ot,ct,rfl,-,hgt,hgp,hcell,hfz⟩:=hM.form (by omega);have p1:=hM.box.c 12 rfl;have hc8:w.cell? ⟨gt,ot+k*14+8,none⟩=some (.int .u8 (n.told:Int)):=by rw[Nat.add_assoc];exact hcell k n 8 _ hk rfl
 have hf8:w.frozen? ⟨gt,ot+k*14+8,none⟩=false:=by rw[Nat.add_assoc];exact hfz k 8 hkl (by omega)
 have HM:=qh hM;have HKN:=qh hk;have HT0:=qh h0;obtain⟨LN,hLN⟩: ∃LN,LN=L.length:=⟨_,rfl⟩
 have hkL:(k:Int)<(LN:Int):=by omega
 have hk0:(0:Int)≤(k:Int):=by omega
 have HLN:=qh hLN;rw[←hLN]at HM p1⊢;have hiI:(i:Int)<(bs.size:Int):=by omega
 have hi0:(0:Int)≤(i:Int):=by omega
 have hge: ¬(bs.size:Int)≤(i:Int):=by omega
 have ewi0:IntKind.i64.wrap (i:Int)=(i:Int):=by rw[IntWalk.i64_in _ (by omega)]
 have ewi:IntKind.i64.wrap ((i:Int)+1)=((i+1:Nat):Int):=by rw[IntWalk.i64_in _ (by omega)];omega
 clear hM hk h0 hcell hfz hLN hkl hgt hgp;rcases qgQ x with hx3|rfl|⟨h5,-⟩
 rotate_left
 ·cases ht
 ·rw [h5]at ht;cases ht
 rcases hx3 with rfl|rfl|rfl
 ·obtain rfl:t=0:=by cases ht;rfl
  have hy117:((((bs[i]'hi).toNat:Nat):Int)==117)=true:=by rw[hxg];rfl
  clear hxg hxe hx;go_enter func42,ntmps42
  go_wp2_with fail
  refine bodyPost_ret (v:=.tuple #[.int .i64 ((i+1:Nat):Int),.bool true]) (by simp[results,results42,go_sem]) rfl ⟨rfl,?_⟩
  have e:L.set k {n with told:=0}=L:=by
   have h1:=(List.getElem?_eq_some_iff.1 HKN.out)
   have h2:({n with told:=0}:NdR)=n:=by rw[←HT0.out]
   rw[h2,←h1.2,List.set_getElem_self]
  rw[e];exact⟨HM.out,Far.qcc (Below.refl _ _)⟩
 ·obtain rfl:t=1:=by cases ht;rfl
  have hy117:((((bs[i]'hi).toNat:Nat):Int)==117)=false:=by rw[hxg];rfl
  have hy105:((((bs[i]'hi).toNat:Nat):Int)==105)=true:=by rw[hxg];rfl
  clear hxg hxe hx;go_enter func42,ntmps42
  go_wp2_with fail
  refine bodyPost_ret (v:=.tuple #[.int .i64 ((i+1:Nat):Int),.bool true]) (by simp[results,results42,go_sem]) rfl ⟨rfl,?_⟩;rw[HLN.out]at HM⊢;exact⟨HM.out.say HKN.out 1,(Far.qcc (Below.refl _ w)).set ⟨gt,ot+k*14+8,none⟩ _ (fun _=>.inr rfl)⟩
 ·obtain rfl:t=2:=by cases ht;rfl
  have hy117:((((bs[i]'hi).toNat:Nat):Int)==117)=false:=by rw[hxg];rfl
  have hy105:((((bs[i]'hi).toNat:Nat):Int)==105)=false:=by rw[hxg];rfl
  have hy111:((((bs[i]'hi).toNat:Nat):Int)==111)=true:=by rw[hxg];rfl
  clear hxg hxe hx;go_enter func42,ntmps42
  go_wp2_with fail
  refine bodyPost_ret (v:=.tuple #[.int .i64 ((i+1:Nat):Int),.bool true]) (by simp[results,results42,go_sem]) rfl ⟨rfl,?_⟩;rw[HLN.out]at HM⊢;exact⟨HM.out.say HKN.out 2,(Far.qcc (Below.refl _ w)).set ⟨gt,ot+k*14+8,none⟩ _ (fun _=>.inr rfl)⟩
end
def qcX (P:SqD→List UInt8→Option (TrT×List UInt8)):List SqD→List UInt8→Option (List TrT×List UInt8)
 |[],r=>some ([],r)
 |q::qs,r=>if (qah q).2=0 then(P q r).bind fun x=>(qcX P qs x.2).bind fun y=>some (x.1::y.1,y.2)else none
theorem qgt {P:SqD→List UInt8→Option (TrT×List UInt8)} {s a b c e:SqD} {d:Nat} {r:List UInt8} (hp:qaQ s=some [a,b,c,e]):
  qaZ P true s d (112::r)=(qcX P [a,b,c,e] r).bind fun x=>match x.1 with
   |[ta,tb,tc,te]=>some (.node s d ta tb tc te,x.2)
   |_=>none:=by
 have h:toldOf 112=none:=rfl
 have hl1:qbN s=some (a,b,c,e)→qaZ P true s d (112::r)=(P a r).bind fun x0=>(P b x0.2).bind fun x1=>(P c x1.2).bind fun x2=>(P e x2.2).bind fun x3=>some (.node s d x0.1 x1.1 x2.1 x3.1,x3.2):=fun hq=>by
  rw[qaZ,h];simp[hq]
 have hl0:qbN s=none→qaZ P true s d (112::r)=none:=fun hq=>by
  rw[qaZ,h];simp[hq]
 have hq:qbN s=if (qah a).2=0∧(qah b).2=0∧(qah c).2=0∧(qah e).2=0 then some (a,b,c,e)else none:=by
  unfold qbN;rw[hp]
 simp only[qcX];by_cases ha:(qah a).2=0
 ·rw [if_pos ha]
  by_cases hb:(qah b).2=0
  ·simp only[if_pos hb]
   by_cases hc:(qah c).2=0
   ·simp only[if_pos hc]
    by_cases he:(qah e).2=0
    ·simp only[if_pos he]
     rw[if_pos ⟨ha,hb,hc,he⟩]at hq;rw[hl1 hq];cases P a r with
     |none=>rfl
     |some x0=>cases h1:P b x0.2 with
      |none=>simp[h1]
      |some x1=>cases h2:P c x1.2 with
       |none=>simp[h1,h2]
       |some x2=>cases h3:P e x2.2 with
        |none=>simp[h1,h2,h3]
        |some x3=>simp[h1,h2,h3]
    ·rw [if_neg (fun h=>he h.2.2.2)]at hq
     rw[hl0 hq];simp only[if_neg he];cases P a r with
     |none=>rfl
     |some x0=>cases h1:P b x0.2 with
      |none=>simp[h1]
      |some x1=>cases h2:P c x1.2 with
       |none=>simp[h1,h2]
       |some x2=>simp[h1,h2]
   ·rw [if_neg (fun h=>hc h.2.2.1)]at hq
    rw[hl0 hq];simp only[if_neg hc];cases P a r with
    |none=>rfl
    |some x0=>cases h1:P b x0.2 with
     |none=>simp[h1]
     |some x1=>simp[h1]
  ·rw [if_neg (fun h=>hb h.2.1)]at hq
   rw[hl0 hq];simp only[if_neg hb];cases P a r with
   |none=>rfl
   |some x0=>simp
 ·rw [if_neg (fun h=>ha h.1)]at hq
  rw[hl0 hq,if_neg ha];rfl
theorem qgS {P:SqD→List UInt8→Option (TrT×List UInt8)} {s:SqD} {d:Nat} {r:List UInt8} (hp:qaQ s=none):qaZ P true s d (112::r)=none:=by
 have h:toldOf 112=none:=rfl;rw[qaZ,h];unfold qbN;rw[hp];simp
theorem qiV (s:SqD) (bs:List UInt8):match qbc 40 s bs with
  |none=>qbU s bs=none
  |some (T,r)=>if r=[]then∃M,qbU s bs=some M∧qcs M (fun j=>(j=0∨1≤j)∧j<M.length) 0 T else qbU s bs=none:=by
 have h:=qh2 40 (by omega) s bs [⟨s,0,0,none⟩] 0 [] (bs.length+1) rfl (by omega);unfold qgI at h;unfold qbU;cases hp:qbc 40 s bs with
 |none=>rw[hp]at h;exact h
 |some x=>
  obtain⟨T,r⟩:=x;rw[hp]at h;obtain⟨hlt,M,hr,ht,-⟩:=h;simp only;obtain⟨f,hf⟩: ∃f,bs.length+1=f+1:=⟨_,rfl⟩
  rw[hf]at hr⊢;rw[hr,qj1];by_cases he:r=[]
  ·rw [if_pos he,if_pos he]
   exact⟨M,rfl,ht⟩
  ·rw [if_neg he,if_neg he]
section
attribute [local go_sem] qaf qad
theorem qj3 {o:Option (List SqD)} {x:Value} (h:qez o x) (hl: ∀l,o=some l→l.length=4): ∃(QL:List Value) (e:Int),x=.tuple #[.agg QL.toArray,.int .i64 e]∧QL.length=28∧QL.all Value.oneCell'=true∧(e≠0∨(e=0∧∃l,o=some l∧QL=l.flatMap qal)):=by
 cases o with
 |none=>
  obtain⟨e,he,rfl⟩:=h;exact⟨ZL2,e,rfl,rfl,rfl,.inl he⟩
 |some l=>
  match l,hl l rfl,h with
  |[a,b,c,d],_,h=>exact⟨_,0,h,rfl,rfl,.inr ⟨rfl,_,rfl,rfl⟩⟩
theorem qpk :(prog.info? 104).map (fun i=>(i.zero,i.size,i.bytes))=some (some (.agg #[.bool false,.string ⟨#[]⟩,.int .i64 0,.bool false,.string ⟨#[]⟩,.int .i64 0,.int .i64 0,.int .i64 0,.int .u8 0,.bool false,.int .i64 0,.int .i64 0,.int .i64 0,.int .i64 0]),14,120):=by kernel_rfl
end
set_option maxRecDepth 100000 in
set_option maxHeartbeats 6400000 in
theorem qhB {w:World} {base p k i:Nat} {v:Value} {u:RuD} {L:List NdR} {n:NdR} {bs:ByteArray} (hM:RfM w base p v u L) (hk:L[k]? =some n) (hq:sqB n.sq=true) (hl:bs.size≤1200) (hx:bs.data.toList[i]? =some 112) (hd:n.depth≤40) (hs:40≤n.depth∨qaQ n.sq=none):
  Calls prog 42 #[.pointer (some ⟨p,0,none⟩),.int .i64 (k:Int),.string bs,.int .i64 (i:Int)] w (qoV p v w):=by
 obtain⟨hi,hxe⟩:=List.getElem?_eq_some_iff.1 hx;have hi:i<bs.size:=hi;have hxg:bs[i]'hi=112:=hxe;have hxn:(bs[i]'hi).toNat=112:=by rw[hxg];rfl
 have hkl:=(List.getElem?_eq_some_iff.1 hk).1;obtain⟨gt,ot,ct,rfl,-,hgt,hgp,hcell,hfz⟩:=hM.form (by omega);have p1:=hM.box.c 12 rfl;have HCL:=qh (fun j y hy=>show w.cell? ⟨gt,ot+k*14+j,none⟩=some y by rw[Nat.add_assoc];exact hcell k n j y hk hy);have PT:Hid (∀W,Calls prog 87 #[.agg (qal n.sq).toArray] W fun en w'=> ∃v,en=.returned v∧qez (qaQ n.sq) v∧Kept W w'):=qh (fun W=>qhf n.sq W hq);have HS:=qh hs;have PO:=qh (fun(l:List SqD) (h:qaQ n.sq=some l)=>qcL hq h);have HD:=qh hd;have hkL:(k:Int)<(L.length:Int):=by omega
 have hk0:(0:Int)≤(k:Int):=by omega
 have hiI:(i:Int)<(bs.size:Int):=by omega
 have hi0:(0:Int)≤(i:Int):=by omega
 have hge: ¬(bs.size:Int)≤(i:Int):=by omega
 have ewi0:IntKind.i64.wrap (i:Int)=(i:Int):=by rw[IntWalk.i64_in _ (by omega)]
 have HHG:=qh hgt;clear hM hk hcell hfz hkl hgt hgp hxg hxe hx hs hd hq;go_enter func42,ntmps42
 go_upto_region 14 with fail
 refine wp_region_list ?_;refine wpList_plain rfl fun K hK=>?_;go_step;refine hK _ _ ?_;clear hK K;refine wpList_plain rfl fun K hK=>?_;go_step;refine hK _ _ ?_;clear hK K;refine wpList_plain rfl fun K hK=>?_;go_step;refine hK _ _ ?_;clear hK K;refine wpList_plain rfl fun K hK=>?_;go_step;refine hK _ _ ?_;clear hK K;refine wpList_plain rfl fun K hK=>?_;go_step;refine hK _ _ ?_;clear hK K;refine wpList_plain rfl fun K hK=>?_;go_step;refine hK _ _ ?_;clear hK K;refine wpList_plain rfl fun K hK=>qau (vs:=rdV n) (g:=gt) (off:=ot+k*14) (n:=14) _ rfl rfl HCL.out rfl underlying104 rfl (by kernel_rfl) (hK _ _ ?_);clear hK K;refine wpList_plain rfl fun K hK=>?_;go_step;refine hK _ _ ?_;clear hK K;have K2:=qh (Kept.new (Below.refl _ w) (.cells #[.bool false,.string ⟨#[]⟩,.int .i64 0,.bool false,.string ⟨#[]⟩,.int .i64 0,.int .i64 0,.int .i64 0,.int .u8 0,.bool false,.int .i64 0,.int .i64 0,.int .i64 0,.int .i64 0] 104));have B2:=qh (Bx.new w [.bool false,.string ⟨#[]⟩,.int .i64 0,.bool false,.string ⟨#[]⟩,.int .i64 0,.int .i64 0,.int .i64 0,.int .u8 0,.bool false,.int .i64 0,.int .i64 0,.int .i64 0,.int .i64 0] 104 w.heap.size rfl);obtain⟨y,hy⟩: ∃y,y=w.heap.size:=⟨_,rfl⟩
 have HY:=qh (show w.heap.size≤y by omega);rw[←hy]at B2⊢;clear hy p1;generalize World.alloc w _=w1 at *;refine wpList_plain rfl fun K hK=>qaa (vs:=rdV n) (b:=y) (n:=14) _ _ rfl rfl rfl B2.out rfl rfl (by kernel_rfl) rfl (hK _ _ ?_);clear hK K;replace B2:=qh (B2.out.row (rdV n));replace K2:=qh (Kept.row K2.out HY.out (rdV n));generalize World.setRow w1 _ _=w2 at *;have c7:=B2.out.c 7 (show(rdV n)[7]? =some (.int .i64 (n.depth:Int))from rfl);have K3:=K2;have B3:=B2;clear K2 B2 c7;go_upto_region 15 with fail
 refine wp_region_list ?_;refine wpList_plain rfl fun K hK=>?_;go_step;refine hK _ _ ?_;clear hK K;refine wpList_plain rfl fun K hK=>qau (vs:=qal n.sq) (g:=y) (off:=0) (n:=7) _ rfl rfl (fun i z hz=>by rw[Nat.zero_add];exact B3.out.c i (by unfold qal at hz;have h7:i<7:=(List.getElem?_eq_some_iff.1 hz).1;rcases(show i=0∨i=1∨i=2∨i=3∨i=4∨i=5∨i=6 by omega)with rfl|rfl|rfl|rfl|rfl|rfl|rfl<;>exact hz)) rfl underlying26 rfl (by kernel_rfl) (hK _ _ ?_);clear hK K;refine wpList_plain rfl fun K hK=>?_;go_step;(with_reducible refine(PT.out _).mono ?_)
 rintro e w4 ⟨x,rfl,hx,hk4⟩;refine hK _ _ ?_;clear hK K;obtain⟨QL,e,rfl,hq1,hq2,hq3⟩:=qj3 hx (fun l h=>(PO.out l h).1);have Q1:=qh hq1;have Q2:=qh hq2;have Q3:=qh hq3;clear hx hq1 hq2 hq3 PT;refine wpList_plain rfl fun K hK=>?_;go_step;refine hK _ _ ?_;clear hK K;refine wpList_plain rfl fun K hK=>?_;go_step;refine hK _ _ ?_;clear hK K;refine wpList_plain rfl fun K hK=>?_;go_step;refine hK _ _ ?_;clear hK K;refine wpList_plain rfl fun K hK=>?_;go_step;refine hK _ _ ?_;clear hK K;have K5:=qh (Kept.new (K3.out.trans' hk4) (.cells ZL2.toArray 141));have B5:=qh (Bx.new w4 ZL2 141 w4.heap.size rfl);have B3n:=qh ((B3.out.kept hk4).kept (Kept.new (Below.refl _ w4) (.cells ZL2.toArray 141)));obtain⟨b,hb⟩: ∃b,b=w4.heap.size:=⟨_,rfl⟩
 have HBY:=qh (show y<b from by rw[hb];exact(B3.out.kept hk4).lt);have HBG:=qh (show w.heap.size≤b from by have:=(K3.out.trans' hk4).size;omega);rw[←hb]at B5⊢;clear hb hk4 K3 B3;generalize World.alloc w4 _=w5 at *;refine wpList_plain rfl fun K hK=>qaa (vs:=QL) (b:=b) (n:=28) _ _ rfl rfl rfl B5.out Q1.out rfl (by kernel_rfl) Q2.out (hK _ _ ?_);clear hK K;replace B5:=qh (B5.out.row QL);replace B3n:=qh (B3n.out.off (g:=b) (by have:=HBY.out;omega) QL);replace K5:=qh (Kept.row K5.out HBG.out QL);generalize World.setRow w5 _ _=w6 at *;have c7:=B3n.out.c 7 (show(rdV n)[7]? =some (.int .i64 (n.depth:Int))from rfl);have KF:Hid (Far (TrB p (.slice (some ⟨gt,ot,none⟩) L.length ct)) w w6):=qh (Far.qcc K5.out);rcases Q3.out with he|⟨rfl,l,hl',hQL⟩
 ·have hne:(e != 0)=true:=by simpa using he
  clear he Q3;go_wp2_with fail
  exact bodyPost_ret (v:=.tuple #[.int .i64 0,.bool false]) (by simp[results,results42,go_sem]) rfl ⟨rfl,KF.out⟩
 ·rcases HS.out with hs|hs
  ·have hde:n.depth=40:=by have:=HD.out;omega
   rw[hde]at c7;clear hs hde hl' hQL Q3;go_wp2_with fail
   exact bodyPost_ret (v:=.tuple #[.int .i64 0,.bool false]) (by simp[results,results42,go_sem]) rfl ⟨rfl,KF.out⟩
  ·rw [hs]at hl';cases hl'
theorem RfM.at_ {X:World} {base p g off c:Nat} {u:RuD} {L:List NdR} (h:RfM X base p (.slice (some ⟨g,off,none⟩) L.length c) u L) {k:Nat} {n:NdR} (hk:L[k]? =some n) {i:Nat} {x:Value} (hi:(rdV n)[i]? =some x):X.cell? ⟨g,off+k*14+i,none⟩=some x∧X.frozen? ⟨g,off+k*14+i,none⟩=false:=by
 have h13:i<14:=(List.getElem?_eq_some_iff.1 hi).1;have hl:=(List.getElem?_eq_some_iff.1 hk).1;have hj:k*14+i<L.length*14:=by omega
 rw[Nat.add_assoc];exact⟨h.own.at_ ((qhy L k n i hk h13).trans hi),(h.own.cells hj).2⟩
theorem RfM.put {X:World} {base p g off c:Nat} {u:RuD} {L:List NdR} (h:RfM X base p (.slice (some ⟨g,off,none⟩) L.length c) u L) {k:Nat} {n m:NdR} (hk:L[k]? =some n) {i:Nat} {x:Value} (hi:i<14) (hm:(rdV n).set i x=rdV m):
  RfM (X.setCell ⟨g,off+k*14+i,none⟩ x) base p (.slice (some ⟨g,off,none⟩) L.length c) u (L.set k m):=by
 have hl:=(List.getElem?_eq_some_iff.1 hk).1;have hj:k*14+i<L.length*14:=by omega
 have hne:g≠p:=h.off g rfl;refine⟨h.box.far _ (fun e=>hne e.symm) _,?_,h.ge,h.off⟩;have ho:=h.own.put hj x;rw[qgW L k n m i x hk hi hm]at ho;show Own _ base 14 _ (L.set k m).length (qd2 (L.set k m));rw[List.length_set,Nat.add_assoc];exact ho
theorem RfM.ltB {W:World} {base p:Nat} {v:Value} {u:RuD} {L:List NdR} (h:RfM W base p v u L): ∀k,TrB p v k→base≤k∧k<W.heap.size:=by
 rintro k (rfl|hk)
 ·exact⟨h.ge,h.box.lt⟩
 ·exact h.own.lt k hk
def NdR.laid (n:NdR) (j:Nat) (a b c e:Nat):NdR:={n with par:=true,k0:=if 0<j then a else n.k0,k1:=if 1<j then b else n.k1,k2:=if 2<j then c else n.k2,k3:=if 3<j then e else n.k3}
def qbX (s:SqD) (d:Nat):NdR:=⟨s,d,0,false,0,0,0,0⟩
def OKR (L:List NdR):Prop:= ∀(j:Nat) (m:NdR),L[j]? =some m→m.toD.ok
theorem OKR.set {L:List NdR} (h:OKR L) (k:Nat) {m:NdR} (hm:m.toD.ok):OKR (L.set k m):=by
 intro j x hj;by_cases e:k=j
 ·subst e
  have hl:=(List.getElem?_eq_some_iff.1 hj).1;rw[List.length_set]at hl;rw[List.getElem?_set_self hl]at hj;cases hj;exact hm
 ·rw [List.getElem?_set_ne e]at hj
  exact h j x hj
theorem OKR.snoc {L:List NdR} (h:OKR L) {m:NdR} (hm:m.toD.ok):OKR (L++[m]):=by
 intro j x hj;by_cases hl:j<L.length
 ·rw [List.getElem?_append_left hl]at hj
  exact h j x hj
 ·rw [List.getElem?_append_right (by omega)]at hj
  have h1:=(List.getElem?_eq_some_iff.1 hj).1;have h2:j-L.length=0:=by simp at h1;omega
  rw[h2]at hj;cases hj;exact hm
theorem qmR {c:UInt8} {t:Nat} (h:toldOf c=some t):t≤2:=by
 unfold toldOf at h;split at h
 ·cases h;omega
 ·split at h
  ·cases h;omega
  ·split at h
   ·cases h;omega
   ·cases h
def qp4 (base p:Nat) (v:Value) (u:RuD) (L:List NdR) (k i0 i:Nat) (T:TrT) (w:World) (en:Ending) (w':World):Prop:=
 ∃(v':Value) (L':List NdR),en=.returned (.tuple #[.int .i64 (i:Int),.bool true])∧RfM w' base p v' u L'∧Far (TrB p v) w w'∧(v'.ownBlock=v.ownBlock∨∀j,v'.ownBlock=some j→w.heap.size≤j)∧
  L.length≤L'.length∧L'.length≤L.length+4*(i-i0)∧(∀j,j<L.length→j≠k→L'[j]? =L[j]?)∧qaz (L'.map NdR.toD) k T (k::List.range' L.length (L'.length-L.length))∧(OKR L→OKR L')
def qbC (base p:Nat) (v:Value) (u:RuD) (L:List NdR) (k i0:Nat) (bs:ByteArray) (x:Option (TrT×List UInt8)) (w:World) (en:Ending) (w':World):Prop:=
 match x with
 |none=>qoV p v w en w'
 |some (T,r)=>r.length≤bs.size∧r=bs.data.toList.drop (bs.size-r.length)∧i0<bs.size-r.length∧qp4 base p v u L k i0 (bs.size-r.length) T w en w'
theorem qbC.leaf {base p k t i:Nat} {v:Value} {u:RuD} {L:List NdR} {n:NdR} {bs:ByteArray} {w w':World} {en:Ending} (h:qnW base p v u L k t i n w en w') (hk:L[k]? =some n) (hp:n.par=false) (hi:i<bs.size) (ht:t≤2):
  qbC base p v u L k i bs (some (.leaf n.sq n.depth t,bs.data.toList.drop (i+1))) w en w':=by
 obtain⟨h1,h2,h3⟩:=h;have hl:=(List.getElem?_eq_some_iff.1 hk).1;have hlen:(bs.data.toList.drop (i+1)).length=bs.size-(i+1):=by rw[List.length_drop];rfl
 have he:bs.size-(bs.size-(i+1))=i+1:=by omega
 unfold qbC;simp only;rw[hlen,he];refine⟨by omega,rfl,by omega,v,_,h1,h2,h3,.inl rfl,by rw[List.length_set];exact Nat.le_refl _,by rw[List.length_set];omega,fun j hj hne=>List.getElem?_set_ne (fun e=>hne e.symm),?_,fun hL=>hL.set k ⟨(hL k n hk).sq,ht,(hL k n hk).depth⟩⟩;rw[List.length_set,Nat.sub_self];refine .leaf k (NdR.toD {n with told:=t}) ?_ ?_
 ·rw [List.getElem?_map,List.getElem?_set_self hl];rfl
 ·unfold NdR.toD;simp[hp]
theorem qgN {w:World} {base p k i:Nat} {v:Value} {u:RuD} {L:List NdR} {n:NdR} {bs:ByteArray} (P:SqD→List UInt8→Option (TrT×List UInt8)) (more:Bool) (hM:RfM w base p v u L) (hk:L[k]? =some n) (h0:n.told=0) (hp:n.par=false) (hl:bs.size≤1200) (hne:bs.data.toList[i]? ≠some 112):
  Calls prog 42 #[.pointer (some ⟨p,0,none⟩),.int .i64 (k:Int),.string bs,.int .i64 (i:Int)] w (qbC base p v u L k i bs (qaZ P more n.sq n.depth (bs.data.toList.drop i)) w):=by
 have hdl:bs.data.toList.length=bs.size:=rfl;by_cases hi:i<bs.size
 ·obtain⟨x,hx⟩: ∃x,bs.data.toList[i]? =some x:=⟨_,List.getElem?_eq_getElem (by rw[hdl];exact hi)⟩
  have hdr:bs.data.toList.drop i=x::bs.data.toList.drop (i+1):=by
   obtain⟨h1,h2⟩:=List.getElem?_eq_some_iff.1 hx;rw[←h2,←List.drop_eq_getElem_cons h1]
  have hx112:x≠112:=fun e=>hne (by rw[hx,e]);rw[hdr];cases ht:toldOf x with
  |some t=>
   have e:qaZ P more n.sq n.depth (x::bs.data.toList.drop (i+1))=some (.leaf n.sq n.depth t,bs.data.toList.drop (i+1)):=by rw[qaZ,ht]
   rw[e];exact(qld hM hk h0 hl hx ht).mono fun en w' h=>qbC.leaf h hk hp hi (qmR ht)
  |none=>
   have e:qaZ P more n.sq n.depth (x::bs.data.toList.drop (i+1))=none:=by
    rw[qaZ,ht];simp only;rw[if_neg (fun h=>hx112 h.1)]
   rw[e];exact qmX hl hx ht hx112
 ·rw [List.drop_of_length_le (by rw[hdl];omega)]
  exact qjT (by omega)
structure qeH (n:NdR) (k:Nat) (L:List NdR) (cs:List Nat) (Ts:List TrT) (L':List NdR):Prop where
 node:L'[k]? =some (n.laid cs.length (cs.getD 0 0) (cs.getD 1 0) (cs.getD 2 0) (cs.getD 3 0))
 le:L.length≤L'.length
 old: ∀j,j<L.length→j≠k→L'[j]? =L[j]?
 parts: ∃Ps:List (List Nat),Ps.flatten=List.range' L.length (L'.length-L.length)∧Ps.length=cs.length∧Ts.length=cs.length∧∀(m c:Nat) (T:TrT) (P:List Nat),cs[m]? =some c→Ts[m]? =some T→Ps[m]? =some P→qaz (L'.map NdR.toD) c T P
theorem qeH.start {n:NdR} {k:Nat} {L:List NdR} (hk:k<L.length):qeH n k L [] [] (L.set k {n with par:=true}):=by
 refine⟨by rw[List.getElem?_set_self hk];rfl,by rw[List.length_set];exact Nat.le_refl _,fun j hj hne=>List.getElem?_set_ne (fun e=>hne e.symm),[],by rw[List.length_set,Nat.sub_self];rfl,rfl,rfl,fun m c T P h=>by simp at h⟩
theorem qeH.done {n:NdR} {k:Nat} {L L':List NdR} {c0 c1 c2 c3:Nat} {T0 T1 T2 T3:TrT} (h:qeH n k L [c0,c1,c2,c3] [T0,T1,T2,T3] L'):
  qaz (L'.map NdR.toD) k (.node n.sq n.depth T0 T1 T2 T3) (k::List.range' L.length (L'.length-L.length)):=by
 obtain⟨Ps,h1,h2,-,h4⟩:=h.parts;match Ps,h2,h1,h4 with
 |[P0,P1,P2,P3],_,h1,h4=>
  rw[←h1];have e:([P0,P1,P2,P3]:List (List Nat)).flatten=P0++(P1++(P2++P3)):=by simp
  rw[e];have hn:=h.node;refine qaz.node k (NdR.toD (n.laid 4 c0 c1 c2 c3)) c0 c1 c2 c3 T0 T1 T2 T3 P0 P1 P2 P3 ?_ rfl (h4 0 _ _ _ rfl rfl rfl) (h4 1 _ _ _ rfl rfl rfl) (h4 2 _ _ _ rfl rfl rfl) (h4 3 _ _ _ rfl rfl rfl);rw[List.getElem?_map,hn];rfl
theorem qeH.step {n:NdR} {k:Nat} {L L' L'':List NdR} {cs:List Nat} {Ts:List TrT} {T:TrT} {m b:NdR} (hk:k<L.length) (h:qeH n k L cs Ts L')
  (hm:m=n.laid (cs++[L'.length]).length ((cs++[L'.length]).getD 0 0) ((cs++[L'.length]).getD 1 0) ((cs++[L'.length]).getD 2 0) ((cs++[L'.length]).getD 3 0))
  (hle:(L'.set k m++[b]).length≤L''.length)
  (hold: ∀j,j<(L'.set k m++[b]).length→j≠L'.length→L''[j]? =(L'.set k m++[b])[j]?)
  (ht:qaz (L''.map NdR.toD) L'.length T (L'.length::List.range' (L'.set k m++[b]).length (L''.length-(L'.set k m++[b]).length))):
  qeH n k L (cs++[L'.length]) (Ts++[T]) L'':=by
 have hlen:(L'.set k m++[b]).length=L'.length+1:=by rw[List.length_append,List.length_set];rfl
 rw[hlen]at hle hold ht;have hkl:k<L'.length:=Nat.lt_of_lt_of_le hk h.le
 have hin: ∀j,j<L'.length→L''[j]? =(L'.set k m)[j]? :=fun j hj=>by
  rw[hold j (by omega) (by omega),List.getElem?_append_left (by rw[List.length_set];exact hj)]
 have hin2: ∀j,j<L'.length→j≠k→L''[j]? =L'[j]? :=fun j hj hne=>by
  rw[hin j hj,List.getElem?_set_ne (fun e=>hne e.symm)]
 have hle0:=h.le;refine⟨by rw[hin k hkl,List.getElem?_set_self hkl,hm],by omega,fun j hj hne=>by rw[hin2 j (by omega) hne,h.old j hj hne],?_⟩;obtain⟨Ps,h1,h2,h3,h4⟩:=h.parts
 have hmem: ∀P∈Ps,∀j∈P,L.length≤j∧j<L'.length:=fun P hP j hj=>by
  have h5:j∈Ps.flatten:=List.mem_flatten.2 ⟨P,hP,hj⟩;rw[h1,List.mem_range'_1]at h5;omega
 refine⟨Ps++[L'.length::List.range' (L'.length+1) (L''.length-(L'.length+1))],?_,by simp[h2],by simp[h3],?_⟩
 ·rw [List.flatten_append,h1]
  have e:L''.length-L.length=(L'.length-L.length)+((L''.length-(L'.length+1))+1):=by omega
  rw[e,←List.range'_append_1,List.range'_succ];have e2:L.length+(L'.length-L.length)=L'.length:=by omega
  rw[e2];simp
 ·intro i c t P hc hT hP
  by_cases hi:i<cs.length
  ·rw [List.getElem?_append_left hi]at hc
   rw[List.getElem?_append_left (by omega)]at hT hP;have h5:=h4 i c t P hc hT hP;refine h5.mono fun j hj=>?_;have h6:=hmem P (List.mem_of_getElem? hP) j hj;rw[List.getElem?_map,List.getElem?_map,hin2 j h6.2 (by omega)]
  ·have hil:i<(cs++[L'.length]).length:=(List.getElem?_eq_some_iff.1 hc).1
   have hil2:i=cs.length:=by rw[List.length_append]at hil;simp at hil;omega
   subst hil2;rw[List.getElem?_append_right (Nat.le_refl _),Nat.sub_self]at hc;rw[List.getElem?_append_right (by omega)]at hT hP;rw[h3,Nat.sub_self]at hT;rw[h2,Nat.sub_self]at hP;simp at hc hT hP;subst hc hT hP;exact ht
theorem qeH.fin {n:NdR} {k:Nat} {L L':List NdR} {cs:List Nat} {Ts:List TrT} (h:qeH n k L cs Ts L') (hc:cs.length=4): ∃T0 T1 T2 T3,Ts=[T0,T1,T2,T3]∧
  qaz (L'.map NdR.toD) k (.node n.sq n.depth T0 T1 T2 T3) (k::List.range' L.length (L'.length-L.length)):=by
 obtain⟨Ps,h1,h2,h3,h4⟩:=h.parts;match cs,Ts,hc,h3,h with
 |[c0,c1,c2,c3],[T0,T1,T2,T3],_,_,h=>exact⟨T0,T1,T2,T3,rfl,h.done⟩
theorem qkn {P:SqD→List UInt8→Option (TrT×List UInt8)} {qs:List SqD} {r0 r r':List UInt8} {m:Nat} {Ts:List TrT} {q:SqD} {T:TrT} (h:qcX P qs r0=(qcX P (qs.drop m) r).map fun y=>(Ts++y.1,y.2)) (hq:qs[m]? =some q) (hc:(qah q).2=0) (hP:P q r=some (T,r')):
  qcX P qs r0=(qcX P (qs.drop (m+1)) r').map fun y=>((Ts++[T])++y.1,y.2):=by
 obtain⟨hl,he⟩:=List.getElem?_eq_some_iff.1 hq;rw[h,List.drop_eq_getElem_cons hl,he,qcX,if_pos hc,hP];show Option.map _ (Option.bind (qcX P (qs.drop (m+1)) r') _)=_;cases qcX P (qs.drop (m+1)) r' with
 |none=>rfl
 |some y=>simp
theorem qkl {P:SqD→List UInt8→Option (TrT×List UInt8)} {qs:List SqD} {r0 r:List UInt8} {m:Nat} {Ts:List TrT} {q:SqD} (h:qcX P qs r0=(qcX P (qs.drop m) r).map fun y=>(Ts++y.1,y.2)) (hq:qs[m]? =some q) (hc:(qah q).2≠0∨P q r=none):qcX P qs r0=none:=by
 obtain⟨hl,he⟩:=List.getElem?_eq_some_iff.1 hq;rw[h,List.drop_eq_getElem_cons hl,he,qcX];by_cases h0:(qah q).2=0
 ·rcases hc with hc|hc
  ·exact absurd h0 hc
  ·rw [if_pos h0,hc];rfl
 ·rw [if_neg h0];rfl
theorem qaz.head {L:List NdD} {k:Nat} {T:TrT} {P:List Nat} (h:qaz L k T P):k∈P:=by
 cases h<;>simp
theorem qaz.qpS {L:List NdD} {k:Nat} {T:TrT} {P:List Nat} (h:qaz L k T P) (hs:P.Pairwise (· < ·)):
  ∀(j:Nat) (n:NdD) (p q r s:Nat),j∈P→L[j]? =some n→n.kids=some (p,q,r,s)→(j<p∧p∈P)∧(j<q∧q∈P)∧(j<r∧r∈P)∧(j<s∧s∈P):=by
 induction h with
 |leaf k n h1 h2=>
  intro j m p q r s hj hm hk;simp at hj;subst hj;rw[h1]at hm;cases hm;rw[h2]at hk;cases hk
 |node k n p q r s a b c e P Q R S h1 h2 g1 g2 g3 g4 i1 i2 i3 i4=>
  obtain⟨s0,s1⟩:=List.pairwise_cons.1 hs;obtain⟨sP,s2,-⟩:=List.pairwise_append.1 s1;obtain⟨sQ,s3,-⟩:=List.pairwise_append.1 s2;obtain⟨sR,sS,-⟩:=List.pairwise_append.1 s3;intro j m p' q' r' s' hj hm hk;simp only[List.mem_cons,List.mem_append]at hj⊢;rcases hj with rfl|hj|hj|hj|hj
  ·rw [h1]at hm;cases hm
   rw[h2]at hk;cases hk;have m1:=g1.head;have m2:=g2.head;have m3:=g3.head;have m4:=g4.head;exact⟨⟨s0 _ (by simp[m1]),.inr (.inl m1)⟩,⟨s0 _ (by simp[m2]),.inr (.inr (.inl m2))⟩,⟨s0 _ (by simp[m3]),.inr (.inr (.inr (.inl m3)))⟩,⟨s0 _ (by simp[m4]),.inr (.inr (.inr (.inr m4)))⟩⟩
  ·obtain⟨a1,a2,a3,a4⟩:=i1 sP j m p' q' r' s' hj hm hk
   exact⟨⟨a1.1,.inr (.inl a1.2)⟩,⟨a2.1,.inr (.inl a2.2)⟩,⟨a3.1,.inr (.inl a3.2)⟩,⟨a4.1,.inr (.inl a4.2)⟩⟩
  ·obtain⟨a1,a2,a3,a4⟩:=i2 sQ j m p' q' r' s' hj hm hk
   exact⟨⟨a1.1,.inr (.inr (.inl a1.2))⟩,⟨a2.1,.inr (.inr (.inl a2.2))⟩,⟨a3.1,.inr (.inr (.inl a3.2))⟩,⟨a4.1,.inr (.inr (.inl a4.2))⟩⟩
  ·obtain⟨a1,a2,a3,a4⟩:=i3 sR j m p' q' r' s' hj hm hk
   exact⟨⟨a1.1,.inr (.inr (.inr (.inl a1.2)))⟩,⟨a2.1,.inr (.inr (.inr (.inl a2.2)))⟩,⟨a3.1,.inr (.inr (.inr (.inl a3.2)))⟩,⟨a4.1,.inr (.inr (.inr (.inl a4.2)))⟩⟩
  ·obtain⟨a1,a2,a3,a4⟩:=i4 sS j m p' q' r' s' hj hm hk
   exact⟨⟨a1.1,.inr (.inr (.inr (.inr a1.2)))⟩,⟨a2.1,.inr (.inr (.inr (.inr a2.2)))⟩,⟨a3.1,.inr (.inr (.inr (.inr a3.2)))⟩,⟨a4.1,.inr (.inr (.inr (.inr a4.2)))⟩⟩
theorem qaz.qpM {L:List NdD} {T:TrT} (h:qaz L 0 T (List.range L.length)):qdX L:=by
 intro k n p q r s hk hn;have hl:=(List.getElem?_eq_some_iff.1 hk).1;obtain⟨a1,a2,a3,a4⟩:=h.qpS List.pairwise_lt_range k n p q r s (List.mem_range.2 hl) hk hn;exact⟨⟨a1.1,List.mem_range.1 a1.2⟩,⟨a2.1,List.mem_range.1 a2.2⟩,⟨a3.1,List.mem_range.1 a3.2⟩,⟨a4.1,List.mem_range.1 a4.2⟩⟩
theorem qlk {L:List NdR} {T:TrT} (h:qaz (L.map NdR.toD) 0 T (0::List.range' 1 (L.length-1))) (hk:OKR L) (hl:L.length≤87381):qck L∧qaz (stR L).L 0 T (List.range (stR L).L.length):=by
 have h0:0<L.length:=by have:=h.lt 0 (by simp);rw[List.length_map]at this;exact this
 have e:0::List.range' 1 (L.length-1)=List.range (L.map NdR.toD).length:=by
  rw[List.length_map,List.range_eq_range'];obtain⟨m,hm⟩: ∃m,L.length=m+1:=⟨L.length-1,by omega⟩
  rw[hm,List.range'_succ,Nat.add_sub_cancel]
 rw[e]at h;have hsz:=h.size;have hlc:=qcd T;rw[List.length_range,List.length_map]at hsz;have hc:4*((3*L.length+1) / 4)=3*L.length+1:=by omega
 have hK:=h.qpM;refine⟨⟨⟨fun j m hj=>?_,hK,?_,?_,?_⟩,⟨⟨T,_,h,List.Perm.refl _⟩,hK,?_,?_,?_⟩⟩,h⟩
 ·change(L.map NdR.toD)[j]? =some m at hj
  rw[List.getElem?_map]at hj;obtain⟨x,hx,rfl⟩:=Option.map_eq_some_iff.1 hj;exact hk j x hx
 ·show 4*((3*L.length+1) / 4)=3*(L.map NdR.toD).length+1
  rw[List.length_map];exact hc
 ·show(3*L.length+1) / 4≤65536
  omega
 ·show 0<(L.map NdR.toD).length
  rw[List.length_map];exact h0
 ·show 4*((3*L.length+1) / 4)=3*(L.map NdR.toD).length+1
  rw[List.length_map];exact hc
 ·show 0<(L.map NdR.toD).length
  rw[List.length_map];exact h0
 ·show(3*L.length+1) / 4≤65536
  omega
theorem qaz.prs {S:StD} {k:Nat} {T:TrT} {P:List Nat} (h:qaz S.L k T P):(P.filter (qa9 S.L)).map (prL S)=T.leaves:=by
 induction h with
 |leaf k n h1 h2=>simp[qa9,prL,h1,h2,TrT.leaves]
 |node k n p q r s a b c e P Q R U h1 h2 _ _ _ _ i1 i2 i3 i4=>simp[qa9,h1,h2,TrT.leaves,List.filter_append,i1,i2,i3,i4]
theorem qfW {S:StD} (hW:Whole S) {T:TrT} (h:qbk S.L 0 T):(qak S).map (prL S)=T.leaves:=by
 obtain⟨T',h1,_⟩:=hW.pre;rw[h.uniq h1.tree];exact h1.prs
theorem qjh {S:StD} {l:List Nat} (hl: ∀k∈l,k<S.L.length) (t:Nat):qbK S l t=(l.map (prL S)).countP (fun x=>x.2==t):=by
 unfold qbK;rw[List.countP_map];refine List.countP_congr fun k hk=>?_;obtain⟨n,hn⟩: ∃n,S.L[k]? =some n:=⟨_,List.getElem?_eq_getElem (hl k hk)⟩
 simp[prL,hn,Function.comp]
theorem qaz.deepest {L:List NdD} {k:Nat} {T:TrT} {P:List Nat} (h:qaz L k T P):(∀j∈P,∀n,L[j]? =some n→n.depth≤T.deep)∧T.deep≤qcM L:=by
 induction h with
 |leaf k n h1 h2=>
  refine⟨fun j hj m hm=>?_,qf4 h1⟩;simp at hj;subst hj;rw[h1]at hm;cases hm;exact Nat.le_refl _
 |node k n p q r s a b c e P Q R U h1 h2 _ _ _ _ i1 i2 i3 i4=>
  refine⟨fun j hj m hm=>?_,?_⟩
  ·simp only[List.mem_cons,List.mem_append]at hj
   simp only[TrT.deep];rcases hj with rfl|hj|hj|hj|hj
   ·rw [h1]at hm;cases hm;omega
   ·have:=i1.1 j hj m hm;omega
   ·have:=i2.1 j hj m hm;omega
   ·have:=i3.1 j hj m hm;omega
   ·have:=i4.1 j hj m hm;omega
  ·have:=qf4 h1;have:=i1.2;have:=i2.2;have:=i3.2;have:=i4.2
   simp only[TrT.deep];omega
theorem qo2 {L:List NdD} {B:Nat} (h: ∀n∈L,n.depth≤B):qcM L≤B:=by
 unfold qcM;induction L with
 |nil=>exact Nat.zero_le _
 |cons x l ih=>
  rw[List.map_cons,List.foldl_cons,foldl_max];have h1:=ih fun n hn=>h n (List.mem_cons_of_mem _ hn);have h2:=h x List.mem_cons_self;omega
theorem qhZ {S:StD} (hW:Whole S) {T:TrT} (h:qbk S.L 0 T):qcM S.L=T.deep:=by
 obtain⟨T',P,h1,h2⟩:=hW.tree;rw[h.uniq h1.tree];refine Nat.le_antisymm (qo2 fun n hn=>?_) h1.deepest.2;obtain⟨j,hj,hn⟩:=List.getElem_of_mem hn;exact h1.deepest.1 j (h2.mem_iff.2 (List.mem_range.2 hj)) n (by rw[←hn];exact List.getElem?_eq_getElem hj)
theorem qil {S:StD} {T:TrT} (h:qbk S.L 0 T): ∃n,S.L[0]? =some n∧n.sq=T.sq:=by
 cases h with
 |leaf k n h1 h2=>exact⟨n,h1,rfl⟩
 |node k n p q r s a b c e h1 h2 _ _ _ _=>exact⟨n,h1,rfl⟩
structure qpy (S R:StD):Prop where
 bytes:bytesD S=bytesD R
 prs:(qak S).map (prL S)=(qak R).map (prL R)
 cnt: ∀t,qbK S (qak S) t=qbK R (qak R) t
 deep:qcM S.L=qcM R.L
 root: ∃n m,S.L[0]? =some n∧R.L[0]? =some m∧n.sq=m.sq
theorem qkf {S R:StD} {T:TrT} (hS:Whole S) (hR:Whole R) (h1:qbk S.L 0 T) (h2:qbk R.L 0 T):qpy S R:=by
 obtain⟨n,a1,a2⟩:=qil h1;obtain⟨m,b1,b2⟩:=qil h2;exact⟨(qgu hS h1).trans (qgu hR h2).symm,(qfW hS h1).trans (qfW hR h2).symm,fun t=>by rw[qjh (qbD hS),qjh (qbD hR),qfW hS h1,qfW hR h2],(qhZ hS h1).trans (qhZ hR h2).symm,n,m,a1,b1,a2.trans b2.symm⟩
section
structure RdL (base p:Nat) (v:Value) (u:RuD) (L:List NdR) (k i:Nat) (n:NdR) (bs:ByteArray) (P:SqD→List UInt8→Option (TrT×List UInt8)) (qs:List SqD) (b y:Nat) (QL:List Value) (w:World)
  (m fr:Nat) (cs:List Nat) (Ts:List TrT) (vm:Value) (Lm:List NdR) (wx:World):Prop where
 cnt:cs.length=m
 loop:qeH n k L cs Ts Lm
 mem:RfM wx base p vm u Lm
 bq:Bx wx b QL
 by_:Bx wx y (rdV n)
 far:Far (TrB p v) w wx
 own:vm.ownBlock=v.ownBlock∨∀j,vm.ownBlock=some j→w.heap.size≤j
 apart: ∀j,TrB p vm j→j≠b∧j≠y
 lo:i<fr
 hi:fr≤bs.size
 len:Lm.length≤L.length+4*(fr-(i+1))+m
 ok:OKR L→OKR Lm
 more:qcX P qs (bs.data.toList.drop (i+1))=(qcX P (qs.drop m) (bs.data.toList.drop fr)).map fun y=>(Ts++y.1,y.2)
section
variable {base p : Nat} {v : Value} {u : RuD} {L : List NdR} {k i : Nat} {n : NdR} {bs : ByteArray} {P : SqD → List UInt8 → Option (TrT × List UInt8)} {qs : List SqD} {b y : Nat} {QL : List Value} {w : World} {m fr : Nat} {cs : List Nat} {Ts : List TrT} {vm : Value} {Lm : List NdR} {wx : World}
theorem RdL.kept (h:RdL base p v u L k i n bs P qs b y QL w m fr cs Ts vm Lm wx) {w':World} (hk:Kept wx w'):RdL base p v u L k i n bs P qs b y QL w m fr cs Ts vm Lm w':=
 ⟨h.cnt,h.loop,h.mem.kept hk,h.bq.kept hk,h.by_.kept hk,h.far.then hk,h.own,h.apart,h.lo,h.hi,h.len,h.ok,h.more⟩
theorem qem {i:Nat} {x:UInt8} (hx:bs.data.toList[i]? =some x):bs.data.toList.drop i=x::bs.data.toList.drop (i+1):=by
 obtain⟨h1,h2⟩:=List.getElem?_eq_some_iff.1 hx;rw[←h2,←List.drop_eq_getElem_cons h1]
theorem RdL.fin {q0 q1 q2 q3:SqD} (h:RdL base p v u L k i n bs P [q0,q1,q2,q3] b y QL w 4 fr cs Ts vm Lm wx) (hx:bs.data.toList[i]? =some 112) (hp:qaQ n.sq=some [q0,q1,q2,q3]):
  qbC base p v u L k i bs (qaZ P true n.sq n.depth (bs.data.toList.drop i)) w (.returned (.tuple #[.int .i64 (fr:Int),.bool true])) wx:=by
 obtain⟨T0,T1,T2,T3,rfl,ht⟩:=h.loop.fin h.cnt;have hm:=h.more;rw[qem hx,qgt hp,hm];have hhi:=h.hi;have hlo:=h.lo;have hlen:=h.len;have e1:(bs.data.toList.drop fr).length=bs.size-fr:=by rw[List.length_drop];rfl
 have e2:bs.size-(bs.size-fr)=fr:=by omega
 show qbC base p v u L k i bs (some (.node n.sq n.depth T0 T1 T2 T3,bs.data.toList.drop fr)) w _ wx;unfold qbC;simp only;rw[e1,e2];exact⟨by omega,rfl,hlo,vm,Lm,rfl,h.mem,h.far,h.own,h.loop.le,by omega,h.loop.old,ht,h.ok⟩
theorem RdL.no {q0 q1 q2 q3 q:SqD} (h:RdL base p v u L k i n bs P [q0,q1,q2,q3] b y QL w m fr cs Ts vm Lm wx) (hx:bs.data.toList[i]? =some 112) (hp:qaQ n.sq=some [q0,q1,q2,q3]) (hq:[q0,q1,q2,q3][m]? =some q) (hc:(qah q).2≠0∨P q (bs.data.toList.drop fr)=none) {w':World} (hf:Far (TrB p v) w w'):
  qbC base p v u L k i bs (qaZ P true n.sq n.depth (bs.data.toList.drop i)) w (.returned (.tuple #[.int .i64 0,.bool false])) w':=by
 rw[qem hx,qgt hp,qkl h.more hq hc];exact⟨rfl,hf⟩
def nextR (n:NdR) (cs:List Nat) (c:Nat):NdR:=n.laid (cs++[c]).length ((cs++[c]).getD 0 0) ((cs++[c]).getD 1 0) ((cs++[c]).getD 2 0) ((cs++[c]).getD 3 0)
theorem qnp (n:NdR) {cs:List Nat} (hc:cs.length<4) (c:Nat):(rdV (n.laid cs.length (cs.getD 0 0) (cs.getD 1 0) (cs.getD 2 0) (cs.getD 3 0))).set (10+cs.length) (.int .i64 (c:Int))=rdV (nextR n cs c):=by
 match cs,hc with
 |[],_=>rfl
 |[_],_=>rfl
 |[_,_],_=>rfl
 |[_,_,_],_=>rfl
theorem RdL.laid (h:RdL base p v u L k i n bs P qs b y QL w m fr cs Ts vm Lm wx) (hm:m<4) {g off c:Nat} (hv:vm=.slice (some ⟨g,off,none⟩) Lm.length c):
  RfM (wx.setCell ⟨g,off+k*14+10+m,none⟩ (.int .i64 (Lm.length:Int))) base p vm u (Lm.set k (nextR n cs Lm.length)):=by
 subst hv;have hc:=h.cnt;subst hc;have h1:=h.mem.put h.loop.node (i:=10+cs.length) (x:=.int .i64 (Lm.length:Int)) (by omega) (qnp n hm Lm.length);rw[←Nat.add_assoc]at h1;exact h1
theorem RdL.next {q:SqD} {T:TrT} {r:List UInt8} (h:RdL base p v u L k i n bs P qs b y QL w m fr cs Ts vm Lm wx) (hk:k<L.length) (hq:qs[m]? =some q) (hc:(qah q).2=0) (hP:P q (bs.data.toList.drop fr)=some (T,r)) {d:Nat} {v1:Value} {w1 w2:World} {en:Ending}
  (hm:m<4) (hd:d≤40) (hn:n.toD.ok) (hqo:sqB q=true)
  (hf:Far (TrB p v) w w1) (hv:v1.ownBlock=v.ownBlock∨∀j,v1.ownBlock=some j→w.heap.size≤j) (ha: ∀j,TrB p v1 j→j≠b∧j≠y) (hbq:Bx w1 b QL) (hby:Bx w1 y (rdV n))
  (hr:qbC base p v1 u (Lm.set k (nextR n cs Lm.length)++[qbX q d]) Lm.length fr bs (some (T,r)) w1 en w2):
  en=.returned (.tuple #[.int .i64 ((bs.size-r.length:Nat):Int),.bool true])∧∃v2 L2,RdL base p v u L k i n bs P qs b y QL w (m+1) (bs.size-r.length) (cs++[Lm.length]) (Ts++[T]) v2 L2 w2:=by
 unfold qbC at hr;simp only at hr;obtain⟨h1,h2,h3,v2,L2,h4,h5,h6,h7,h8,h9,h10,h11,h12⟩:=hr;have hlo:=h.lo;have hlen:=h.len;have hcnt:=h.cnt;have hLL:(Lm.set k (nextR n cs Lm.length)++[qbX q d]).length=Lm.length+1:=by rw[List.length_append,List.length_set];rfl
 refine⟨h4,v2,L2,by rw[List.length_append,hcnt];rfl,h.loop.step hk rfl h8 h10 h11,h5,hbq.to h6 (fun e=>(ha b e).1 rfl),hby.to h6 (fun e=>(ha y e).2 rfl),hf.post hv h6,?_,?_,by omega,by omega,?_,?_,?_⟩
 ·rcases h7 with e|e
  ·rw [e];exact hv
  ·exact .inr fun j hj=>by have:=e j hj;have:=hf.size;omega
 ·rintro j (rfl|hj)
  ·exact ha j (.inl rfl)
  ·rcases h7 with e|e
   ·exact ha j (.inr (by rw[←e];exact hj))
   ·have:=e j hj;have:=hbq.lt;have:=hby.lt
    exact⟨by omega,by omega⟩
 ·rw [hLL]at h9;omega
 ·intro hL
  refine h12 (OKR.snoc (m:=qbX q d) (OKR.set (m:=nextR n cs Lm.length) (h.ok hL) k ⟨hn.sq,hn.told,hn.depth⟩) ⟨hqo,Nat.zero_le 2,hd⟩)
 ·have hmr:=qkn h.more hq hc hP
  rw[hmr,←h2]
theorem RdL.call {q0 q1 q2 q3 q:SqD} (h:RdL base p v u L k i n bs P [q0,q1,q2,q3] b y QL w m fr cs Ts vm Lm wx) (hk:k<L.length) (hx:bs.data.toList[i]? =some 112) (hp:qaQ n.sq=some [q0,q1,q2,q3]) (hq:[q0,q1,q2,q3][m]? =some q) (hc:(qah q).2=0) {d:Nat} {v1:Value} {w1 w2:World} {en:Ending}
  (hm:m<4) (hd:d≤40) (hn:n.toD.ok) (hqo:sqB q=true)
  (hf:Far (TrB p v) w w1) (hv:v1.ownBlock=v.ownBlock∨∀j,v1.ownBlock=some j→w.heap.size≤j) (ha: ∀j,TrB p v1 j→j≠b∧j≠y) (hbq:Bx w1 b QL) (hby:Bx w1 y (rdV n))
  (hr:qbC base p v1 u (Lm.set k (nextR n cs Lm.length)++[qbX q d]) Lm.length fr bs (P q (bs.data.toList.drop fr)) w1 en w2):
  ∃(x:Int) (ok:Bool),en=.returned (.tuple #[.int .i64 x,.bool ok])∧
   (ok=true→∃(f2:Nat) (cs2:List Nat) (Ts2:List TrT) (v2:Value) (L2:List NdR),x=(f2:Int)∧RdL base p v u L k i n bs P [q0,q1,q2,q3] b y QL w (m+1) f2 cs2 Ts2 v2 L2 w2)∧
   (ok=false→qbC base p v u L k i bs (qaZ P true n.sq n.depth (bs.data.toList.drop i)) w (.returned (.tuple #[.int .i64 0,.bool false])) w2):=by
 cases hP:P q (bs.data.toList.drop fr)with
 |none=>
  rw[hP]at hr;obtain⟨rfl,hF⟩:=hr;exact⟨0,false,rfl,fun e=>(by cases e),fun _=>h.no hx hp hq (.inr hP) (hf.post hv hF)⟩
 |some x=>
  obtain⟨T,r⟩:=x;rw[hP]at hr;obtain⟨rfl,v2,L2,h2⟩:=h.next hk hq hc hP hm hd hn hqo hf hv ha hbq hby hr;exact⟨_,true,rfl,fun _=>⟨_,_,_,v2,L2,rfl,h2⟩,fun e=>(by cases e)⟩
theorem qnr (n:NdR) (j a c e f:Nat) {m:Nat} (hm:m<4): ∃x,(rdV (n.laid j a c e f))[10+m]? =some x:=by
 rcases(show m=0∨m=1∨m=2∨m=3 by omega)with rfl|rfl|rfl|rfl<;>exact⟨_,rfl⟩
end
end
set_option maxRecDepth 100000 in
set_option maxHeartbeats 6400000 in
theorem qlm {w:World} {base p k i:Nat} {v:Value} {u:RuD} {L:List NdR} {n:NdR} {bs:ByteArray} {P:SqD→List UInt8→Option (TrT×List UInt8)}
  (IH: ∀(W:World) (V:Value) (M:List NdR) (c f:Nat) (q:SqD),RfM W base p V u M→M[c]? =some (qbX q (n.depth+1))→sqB q=true→M.length≤1+4*f→Calls prog 42 #[.pointer (some ⟨p,0,none⟩),.int .i64 (c:Int),.string bs,.int .i64 (f:Int)] W (qbC base p V u M c f bs (P q (bs.data.toList.drop f)) W))
  (hM:RfM w base p v u L) (hk:L[k]? =some n) (hno:n.toD.ok) (hp:n.par=false) (hl:bs.size≤1200) (hx:bs.data.toList[i]? =some 112) (hd:n.depth<40) {q0 q1 q2 q3:SqD} (hs:qaQ n.sq=some [q0,q1,q2,q3]) (hL:L.length≤1+4*i):
  Calls prog 42 #[.pointer (some ⟨p,0,none⟩),.int .i64 (k:Int),.string bs,.int .i64 (i:Int)] w (qbC base p v u L k i bs (qaZ P true n.sq n.depth (bs.data.toList.drop i)) w):=by
 have hq:=hno.sq;change sqB n.sq=true at hq;have HX:=qh hx;have HNO:=qh hno;have HKK:=qh hk;have HM:=qh hM;have HLL:=qh hL;have HL:=qh hl;have HIH:=qh IH;clear IH hno hL;obtain⟨hi,hxe⟩:=List.getElem?_eq_some_iff.1 hx;have hi:i<bs.size:=hi;have hxg:bs[i]'hi=112:=hxe;have hxn:(bs[i]'hi).toNat=112:=by rw[hxg];rfl
 have hkl:=(List.getElem?_eq_some_iff.1 hk).1;obtain⟨gt,ot,ct,rfl,-,hgt,hgp,hcell,hfz⟩:=hM.form (by omega);have p1:=hM.box.c 12 rfl;have HCL:=qh (fun j y hy=>show w.cell? ⟨gt,ot+k*14+j,none⟩=some y by rw[Nat.add_assoc];exact hcell k n j y hk hy);have PT:Hid (∀W,Calls prog 87 #[.agg (qal n.sq).toArray] W fun en w'=> ∃v,en=.returned v∧qez (qaQ n.sq) v∧Kept W w'):=qh (fun W=>qhf n.sq W hq);have HS:=qh hs;have PO:=qh (fun(l:List SqD) (h:qaQ n.sq=some l)=>qcL hq h);have HD:=qh hd;have hkL:(k:Int)<(L.length:Int):=by omega
 have hk0:(0:Int)≤(k:Int):=by omega
 have hiI:(i:Int)<(bs.size:Int):=by omega
 have hi0:(0:Int)≤(i:Int):=by omega
 have hge: ¬(bs.size:Int)≤(i:Int):=by omega
 have ewi0:IntKind.i64.wrap (i:Int)=(i:Int):=by rw[IntWalk.i64_in _ (by omega)]
 have HHG:=qh hgt;have HPL:=qh hM.box.lt;have HKL:=qh hkl;have HGP:=qh hgp;obtain⟨hl4,hlo⟩:=PO.out _ hs;have HLO:=qh hlo;clear hM hk hcell hfz hkl hgt hgp hxg hxe hx hs hd hq hl4 hlo;go_enter func42,ntmps42
 go_upto_region 14 with fail
 refine wp_region_list ?_;refine wpList_plain rfl fun K hK=>?_;go_step;refine hK _ _ ?_;clear hK K;refine wpList_plain rfl fun K hK=>?_;go_step;refine hK _ _ ?_;clear hK K;refine wpList_plain rfl fun K hK=>?_;go_step;refine hK _ _ ?_;clear hK K;refine wpList_plain rfl fun K hK=>?_;go_step;refine hK _ _ ?_;clear hK K;refine wpList_plain rfl fun K hK=>?_;go_step;refine hK _ _ ?_;clear hK K;refine wpList_plain rfl fun K hK=>?_;go_step;refine hK _ _ ?_;clear hK K;refine wpList_plain rfl fun K hK=>qau (vs:=rdV n) (g:=gt) (off:=ot+k*14) (n:=14) _ rfl rfl HCL.out rfl underlying104 rfl (by kernel_rfl) (hK _ _ ?_);clear hK K;refine wpList_plain rfl fun K hK=>?_;go_step;refine hK _ _ ?_;clear hK K;have K2:=qh (Kept.new (Below.refl _ w) (.cells #[.bool false,.string ⟨#[]⟩,.int .i64 0,.bool false,.string ⟨#[]⟩,.int .i64 0,.int .i64 0,.int .i64 0,.int .u8 0,.bool false,.int .i64 0,.int .i64 0,.int .i64 0,.int .i64 0] 104));have B2:=qh (Bx.new w [.bool false,.string ⟨#[]⟩,.int .i64 0,.bool false,.string ⟨#[]⟩,.int .i64 0,.int .i64 0,.int .i64 0,.int .u8 0,.bool false,.int .i64 0,.int .i64 0,.int .i64 0,.int .i64 0] 104 w.heap.size rfl);obtain⟨y,hy⟩: ∃y,y=w.heap.size:=⟨_,rfl⟩
 have HY:=qh (show w.heap.size≤y by omega);rw[←hy]at B2⊢;clear hy p1;generalize World.alloc w _=w1 at *;refine wpList_plain rfl fun K hK=>qaa (vs:=rdV n) (b:=y) (n:=14) _ _ rfl rfl rfl B2.out rfl rfl (by kernel_rfl) rfl (hK _ _ ?_);clear hK K;replace B2:=qh (B2.out.row (rdV n));replace K2:=qh (Kept.row K2.out HY.out (rdV n));generalize World.setRow w1 _ _=w2 at *;have c7:=B2.out.c 7 (show(rdV n)[7]? =some (.int .i64 (n.depth:Int))from rfl);have K3:=K2;have B3:=B2;clear K2 B2 c7;go_upto_region 15 with fail
 refine wp_region_list ?_;refine wpList_plain rfl fun K hK=>?_;go_step;refine hK _ _ ?_;clear hK K;refine wpList_plain rfl fun K hK=>qau (vs:=qal n.sq) (g:=y) (off:=0) (n:=7) _ rfl rfl (fun i z hz=>by rw[Nat.zero_add];exact B3.out.c i (by unfold qal at hz;have h7:i<7:=(List.getElem?_eq_some_iff.1 hz).1;rcases(show i=0∨i=1∨i=2∨i=3∨i=4∨i=5∨i=6 by omega)with rfl|rfl|rfl|rfl|rfl|rfl|rfl<;>exact hz)) rfl underlying26 rfl (by kernel_rfl) (hK _ _ ?_);clear hK K;refine wpList_plain rfl fun K hK=>?_;go_step;(with_reducible refine(PT.out _).mono ?_)
 rintro e w4 ⟨x,rfl,hx,hk4⟩;refine hK _ _ ?_;clear hK K;rw[HS.out]at hx;obtain⟨QL,hQL⟩: ∃QL,QL=[q0,q1,q2,q3].flatMap qal:=⟨_,rfl⟩
 have hx2:x=.tuple #[.agg QL.toArray,.int .i64 0]:=by rw[hQL];exact hx
 subst hx2;have Q1:=qh (show QL.length=28 by rw[hQL];rfl);have Q2:=qh (show QL.all Value.oneCell'=true by rw[hQL];rfl);have HQL:=qh hQL;clear hx hQL PT;refine wpList_plain rfl fun K hK=>?_;go_step;refine hK _ _ ?_;clear hK K;refine wpList_plain rfl fun K hK=>?_;go_step;refine hK _ _ ?_;clear hK K;refine wpList_plain rfl fun K hK=>?_;go_step;refine hK _ _ ?_;clear hK K;refine wpList_plain rfl fun K hK=>?_;go_step;refine hK _ _ ?_;clear hK K;have K5:=qh (Kept.new (K3.out.trans' hk4) (.cells ZL2.toArray 141));have B5:=qh (Bx.new w4 ZL2 141 w4.heap.size rfl);have B3n:=qh ((B3.out.kept hk4).kept (Kept.new (Below.refl _ w4) (.cells ZL2.toArray 141)));obtain⟨b,hb⟩: ∃b,b=w4.heap.size:=⟨_,rfl⟩
 have HBY:=qh (show y<b from by rw[hb];exact(B3.out.kept hk4).lt);have HBG:=qh (show w.heap.size≤b from by have:=(K3.out.trans' hk4).size;omega);rw[←hb]at B5⊢;clear hb hk4 K3 B3;generalize World.alloc w4 _=w5 at *;refine wpList_plain rfl fun K hK=>qaa (vs:=QL) (b:=b) (n:=28) _ _ rfl rfl rfl B5.out Q1.out rfl (by kernel_rfl) Q2.out (hK _ _ ?_);clear hK K;replace B5:=qh (B5.out.row QL);replace B3n:=qh (B3n.out.off (g:=b) (by have:=HBY.out;omega) QL);replace K5:=qh (Kept.row K5.out HBG.out QL);generalize World.setRow w5 _ _=w6 at *;have c7:=B3n.out.c 7 (show(rdV n)[7]? =some (.int .i64 (n.depth:Int))from rfl);have KF:Hid (Far (TrB p (.slice (some ⟨gt,ot,none⟩) L.length ct)) w w6):=qh (Far.qcc K5.out);have hd40: ¬(40:Int)≤(n.depth:Int):=by have:=HD.out;omega
 have HQ:Hid (∀m:Nat,m<4→∃G:SqD,[q0,q1,q2,q3][m]? =some G∧sqB G=true∧∀i z,(qal G)[i]? =some z→QL[m*7+i]? =some z):=by
  have hlo:=HLO.out;refine qh fun m hm=>?_;rw[HQL.out];rcases(show m=0∨m=1∨m=2∨m=3 by omega)with rfl|rfl|rfl|rfl
  ·exact⟨q0,rfl,hlo _ (by simp),fun i z hz=>by have h7:i<7:=(List.getElem?_eq_some_iff.1 hz).1;rcases(show i=0∨i=1∨i=2∨i=3∨i=4∨i=5∨i=6 by omega)with rfl|rfl|rfl|rfl|rfl|rfl|rfl<;>exact hz⟩
  ·exact⟨q1,rfl,hlo _ (by simp),fun i z hz=>by have h7:i<7:=(List.getElem?_eq_some_iff.1 hz).1;rcases(show i=0∨i=1∨i=2∨i=3∨i=4∨i=5∨i=6 by omega)with rfl|rfl|rfl|rfl|rfl|rfl|rfl<;>exact hz⟩
  ·exact⟨q2,rfl,hlo _ (by simp),fun i z hz=>by have h7:i<7:=(List.getElem?_eq_some_iff.1 hz).1;rcases(show i=0∨i=1∨i=2∨i=3∨i=4∨i=5∨i=6 by omega)with rfl|rfl|rfl|rfl|rfl|rfl|rfl<;>exact hz⟩
  ·exact⟨q3,rfl,hlo _ (by simp),fun i z hz=>by have h7:i<7:=(List.getElem?_eq_some_iff.1 hz).1;rcases(show i=0∨i=1∨i=2∨i=3∨i=4∨i=5∨i=6 by omega)with rfl|rfl|rfl|rfl|rfl|rfl|rfl<;>exact hz⟩
 clear HQL PO HLO;have M6:=HM.out.kept K5.out;obtain⟨c9,f9⟩:=M6.at_ HKK.out (i:=9) (x:=.bool n.par) rfl;have p1:=M6.box.c 12 rfl;have hkL:(k:Int)<(L.length:Int):=by have:=HKL.out;omega
 have ewi1:IntKind.i64.wrap ((i:Int)+1)=((i+1:Nat):Int):=by rw[IntWalk.i64_in _ (by have:=HL.out;omega)];omega
 have HI0:Hid (RdL base p (.slice (some ⟨gt,ot,none⟩) L.length ct) u L k i n bs P [q0,q1,q2,q3] b y QL w 0 (i+1) [] [] (.slice (some ⟨gt,ot,none⟩) L.length ct) (L.set k {n with par:=true}) (w6.setCell ⟨gt,ot+k*14+9,none⟩ (.bool true))):=by
  refine qh ⟨rfl,qeH.start HKL.out,M6.put HKK.out (i:=9) (by omega) rfl,B5.out.far _ (by have:=HHG.out;have:=HBG.out;show b≠gt;omega) _,B3n.out.far _ (by have:=HHG.out;have:=HY.out;show y≠gt;omega) _,KF.out.set _ _ (fun _=>.inr rfl),.inl rfl,?_,by omega,hi,by rw[List.length_set];omega,fun h=>h.set k ⟨HNO.out.sq,HNO.out.told,HNO.out.depth⟩,?_⟩
  ·rintro j (rfl|hj)
   ·exact⟨by have:=HPL.out;have:=HBG.out;omega,by have:=HPL.out;have:=HY.out;omega⟩
   ·cases hj
    show gt≠b∧gt≠y;exact⟨by have:=HHG.out;have:=HBG.out;omega,by have:=HHG.out;have:=HY.out;omega⟩
  ·rw [List.drop_zero]
   cases qcX P [q0,q1,q2,q3] (bs.data.toList.drop (i+1))with
   |none=>rfl
   |some y=>rfl
 clear M6 B5 B3n KF K5;go_wp2_with fail
 go_loopg [3,13] 4 (fun gh v3 v13 wx=> ∃(m fr:Nat) (cs:List Nat) (Ts:List TrT) (vm:Value) (Lm:List NdR),m+gh=4∧v3=.int .i64 (fr:Int)∧v13=.int .i64 (m:Int)∧RdL base p (.slice (some ⟨gt,ot,none⟩) L.length ct) u L k i n bs P [q0,q1,q2,q3] b y QL w m fr cs Ts vm Lm wx)
 case atStart=>exact⟨0,i+1,[],[],_,_,rfl,rfl,rfl,HI0.out⟩
 case round=>
  clear HI0;obtain⟨m,fr,cs,Ts,vm,Lm,hmg,rfl,rfl,hI⟩:=hrel;have HI:=qh hI;cases gk with
  |zero=>
   obtain rfl:m=4:=by omega
   have HPO:=qh (hI.fin HX.out HS.out);clear hI;go_wp2_with fail
   exact bodyPost_ret (v:=.tuple #[.int .i64 (fr:Int),.bool true]) (by simp[results,results42,go_sem]) rfl HPO.out
  |succ gm=>
   obtain⟨G,hG,hGo,hGc⟩:=HQ.out m (by omega);have HG:=qh hG;have HGO:=qh hGo;have HGC:=qh hGc;have HM4:=qh (show m<4 by omega);have CV:Hid (∀W,Calls prog 41 #[.agg (qal G).toArray] W fun en w'=> ∃c1 c2 r:Nat,c1<18446744073709551616∧c2<18446744073709551616∧r<18446744073709551616∧en=.returned (.tuple #[.agg #[.complex .f64 c1 c2,.float .f64 r],.int .i64 (qah G).2])∧Kept W w'):=qh fun W=>qhw G W hGo;have hm4:(m:Int)<4:=by omega
   have hm0:(0:Int)≤(m:Int):=by omega
   have B5:=qh hI.bq;clear hG hGo hGc hI;go_upto_region 23 with fail
   refine wp_region_list ?_;refine wpList_plain rfl fun K hK=>?_;go_step;refine hK _ _ ?_;clear hK K;refine wpList_plain rfl fun K hK=>?_;go_step;refine hK _ _ ?_;clear hK K;refine wpList_plain rfl fun K hK=>qau (vs:=qal G) (g:=b) (off:=m*7) (n:=7) _ rfl rfl (fun i z hz=>B5.out.c _ (HGC.out i z hz)) rfl underlying26 rfl (by kernel_rfl) (hK _ _ ?_);clear hK K;refine wpList_plain rfl fun K hK=>?_;go_step;(with_reducible refine(CV.out _).mono ?_)
   rintro e w11 ⟨c1,c2,c3,hc1,hc2,hc3,rfl,hk11⟩;refine hK _ _ ?_;clear hK K CV;obtain⟨ce,hce⟩: ∃ce,ce=(qah G).2:=⟨_,rfl⟩
   rw[←hce];have HCE:=qh hce;clear hce;refine wpList_plain rfl fun K hK=>?_;go_step;refine hK _ _ ?_;clear hK K;refine wpList_plain rfl fun K hK=>?_;go_step;refine hK _ _ ?_;clear hK K;refine wpList_plain rfl fun K hK=>?_;go_step;refine hK _ _ ?_;clear hK K;refine wpList_plain rfl fun K hK=>?_;go_step;refine hK _ _ ?_;clear hK K;have K11:=qh (Kept.new hk11 (.cells #[.complex .f64 0 0,.float .f64 0] 85));have BB:=qh (Bx.new w11 [.complex .f64 0 0,.float .f64 0] 85 w11.heap.size rfl);obtain⟨d,hd⟩: ∃d,d=w11.heap.size:=⟨_,rfl⟩
   have HGD:=qh (show wr.heap.size≤d by have h1:=hk11.size;omega);rw[←hd]at BB⊢;clear hd hk11 B5;generalize World.alloc w11 _=w12 at *;refine wpList_plain rfl fun K hK=>qaa (vs:=[.complex .f64 c1 c2,.float .f64 c3]) (b:=d) (n:=2) _ _ rfl rfl rfl BB.out rfl rfl (by kernel_rfl) rfl (hK _ _ ?_);clear hK K;replace K11:=qh (Kept.row K11.out HGD.out [.complex .f64 c1 c2,.float .f64 c3]);generalize World.setRow w12 _ _=w13 at *;have HI3:=qh (HI.out.kept K11.out);clear HI BB HGD K11;by_cases hce0:ce=0
   ·subst hce0
    have hI:=HI3.out;obtain⟨g,off,cap,rfl,hbg,hgl,hgp,-,-⟩:=hI.mem.form (by have:=hI.loop.le;have:=HKL.out;omega);obtain⟨NJ,hNJ⟩: ∃NJ,NJ=Lm.length:=⟨_,rfl⟩
    obtain⟨nd,hnd⟩: ∃nd,nd=n.depth:=⟨_,rfl⟩
    have HNJ:=qh hNJ;have HND:=qh hnd;have p1:w13.cell? ⟨p,12,none⟩=some (.slice (some ⟨g,off,none⟩) NJ cap):=by rw[hNJ];exact hI.mem.box.c 12 rfl
    have hkN:(k:Int)<(NJ:Int):=by have:=hI.loop.le;have:=HKL.out;omega
    obtain⟨cv,hcv⟩:=qnr n cs.length (cs.getD 0 0) (cs.getD 1 0) (cs.getD 2 0) (cs.getD 3 0) HM4.out;obtain⟨hcv1,hfv1⟩:=hI.mem.at_ hI.loop.node hcv;rw[←Nat.add_assoc]at hcv1 hfv1;have HM14:Hid (RfM (w13.setCell ⟨g,off+k*14+10+m,none⟩ (.int .i64 (NJ:Int))) base p (.slice (some ⟨g,off,none⟩) NJ cap) u (Lm.set k (nextR n cs NJ))):=qh (by rw[hNJ];exact hI.laid HM4.out rfl);have HB14:=qh (hI.bq.far ⟨g,off+k*14+10+m,none⟩ (hI.apart g (.inr rfl)).1.symm (.int .i64 (NJ:Int)));have HY14:=qh (hI.by_.far ⟨g,off+k*14+10+m,none⟩ (hI.apart g (.inr rfl)).2.symm (.int .i64 (NJ:Int)))
    have hqg:g<w.heap.size→TrB p (.slice (some ⟨gt,ot,none⟩) L.length ct) g:=fun hlt=>by
     rcases hI.own with h|h
     ·exact .inr (by rw[←h];rfl)
     ·exact absurd (h g rfl) (by omega)
    have HQG:=qh hqg;have HF14:=qh (hI.far.set ⟨g,off+k*14+10+m,none⟩ (.int .i64 (NJ:Int)) hqg);have HAP:=qh (And.intro (hI.apart g (.inr rfl)) (hI.apart p (.inl rfl)));have HOW:=qh hI.own;have HGP2:=qh hgp;have HNB:=qh (show NJ≤4*fr by have h1:=hI.len;have h2:=HLL.out;have h3:=hI.lo;have h4:=HM4.out;omega);have HFR:=qh hI.hi;have hnw:IntKind.i64.wrap ((nd:Int)+1)=((nd+1:Nat):Int):=by have h1:=HD.out;rw[IntWalk.i64_in _ (by omega)];omega
    clear hI hNJ hnd hbg hgl hgp hqg hcv;go_upto_region 28 with fail
    clear p1 hcv1 hfv1;generalize w13.setCell ⟨g,off+k*14+10+m,none⟩ (.int .i64 (NJ:Int))=w14 at *;have SK:Hid (∀W,Kept w14 W→W.cell? ⟨p,12,none⟩=some (.slice (some ⟨g,off,none⟩) NJ cap)∧W.rangeAt b (m*7) (qal G)∧W.cell? ⟨y,7,none⟩=some (.int .i64 (nd:Int))):=qh fun W h=>⟨(HM14.out.box.kept h).c 12 rfl,(HB14.out.kept h).range HGC.out,(HY14.out.kept h).c 7 (by rw[HND.out];rfl)⟩
    have hS0:=SK.out _ (Below.refl _ w14).drew;refine qac (fun W=>W.cell? ⟨p,12,none⟩=some (.slice (some ⟨g,off,none⟩) NJ cap)∧W.rangeAt b (m*7) (qal G)∧W.cell? ⟨y,7,none⟩=some (.int .i64 (nd:Int))) [16] (by kernel_rfl) ?_ (fun hHeld=>?_)
    ·(first|assumption|exact SK.out _ (Kept.new (Below.refl _ w14).drew _))
    refine wS 0 111 ?_;refine wS 1 112 ?_;refine wS 2 113 ?_;refine wS 3 114 ?_;refine wS 4 115 ?_;refine wS 5 116 ?_;refine wS 6 117 ?_;refine yS (v:=.agg (qal G).toArray) 7 118 ?_ ?_
    ·intro w hSw;(try dsimp only at hSw);exact qa5 (vs:=qal G) _ rfl rfl hSw.2.1 underlying26 rfl (by kernel_rfl)
    try simp only[Act.put,tdy]
    refine wS 8 119 ?_;refine wS 9 120 ?_;refine wS 10 121 ?_;refine yS (v:=.agg (rdV (qbX G (nd+1))).toArray) 11 122 ?_ ?_
    ·intro w hSw;exact qbn (rdV (qbX G (nd+1))) rfl (by kernel_rfl)
    try simp only[Act.put,tdy]
    refine oS 12 fun K hK=>?_;go_simp;refine hK.out _ _ ?_ (fun hHeld=>?_)
    ·(first|assumption|exact SK.out _ (Kept.new (Below.refl _ w14).drew _))
    clear hK K;try simp only[Act.put,tdy]
    generalize hW12:World.mk _ _ _ _ _=W12;obtain rfl:W12=w14.drew.alloc (.cells (rdV (qbX G (nd+1))).toArray 104):=by rw[←hW12];kernel_rfl
    clear hW12;refine qfe (i:=13) (by kernel_rfl) rfl (fun K hK=>?_);obtain⟨i0,hi,hi0,hi1,hi2⟩:=info_parts qpk;have hO14:=HM14.out.own;rw[List.length_set,←HNJ.out]at hO14;have hmx1:NJ+1≤maxLen:=by have h1:=HNB.out;have h2:=HFR.out;have h3:=HL.out;unfold maxLen;omega
    have hmx2:(NJ+1)*120≤140737488355328:=by have h1:=HNB.out;have h2:=HFR.out;have h3:=HL.out;rw[Nat.add_mul];omega
    refine qeA _ rfl _ _ 78 rfl base 104 i0 (.agg #[.bool false,.string ⟨#[]⟩,.int .i64 0,.bool false,.string ⟨#[]⟩,.int .i64 0,.int .i64 0,.int .i64 0,.int .u8 0,.bool false,.int .i64 0,.int .i64 0,.int .i64 0,.int .i64 0]) 14 120 underlying78 hi hi0 hi1 hi2 rfl (by decide) (.slice (some ⟨g,off,none⟩) NJ cap) NJ (qd2 (Lm.set k (nextR n cs NJ))) rfl (hO14.drew.alloc _) (some ⟨w14.heap.size,0,none⟩) 1 1 (rdV (qbX G (nd+1))) rfl rfl (Row.qbP _ _ _ _ _ _ rfl rfl) (by rw[←qj6];exact qiP _) hmx1 hmx2 ?_ ?_
    ·have h1:=HM14.out.ge;have h2:=HM14.out.box.lt;simp;omega
    intro v9 w9 hown9 hg9 hv9;obtain⟨A9,c9,rfl,-,-,-,-,-⟩:=hown9.form;have hKX:Kept w14 (w14.drew.alloc (.cells (rdV (qbX G (nd+1))).toArray 104)):=Kept.new (Below.refl _ w14).drew _;have BP9:=(HM14.out.box.kept hKX).grown (q:=g) hg9 HGP2.out.symm;have BC9:=(HB14.out.kept hKX).grown (q:=g) hg9 HAP.out.1.1.symm;have BY9:=(HY14.out.kept hKX).grown (q:=g) hg9 HAP.out.1.2.symm;have hS9:w9.cell? ⟨p,12,none⟩=some (.slice (some ⟨g,off,none⟩) NJ cap)∧w9.rangeAt b (m*7) (qal G)∧w9.cell? ⟨y,7,none⟩=some (.int .i64 (nd:Int)):=⟨BP9.c 12 rfl,BC9.range HGC.out,BY9.c 7 (by rw[HND.out];rfl)⟩
    have q1:=BP9.f 12;refine hK.out _ _ hS9 (fun hHeld=>?_);clear hK K;try simp only[Act.put,tdy]
    refine wS 14 125 ?_;refine wS 15 126 ?_;refine eS 16 fun K hK=>?_;go_simp;refine hK.out _ _ ?_;clear hK K;try simp only[Act.put,tdy]
    refine dS ?_ _;have hsz9:w14.heap.size<w9.heap.size:=by have h1:=hg9.size;simp at h1;omega
    have hnw9: ∀i,(Value.slice A9 (NJ+1) c9).ownBlock=some i→i=g∨w14.heap.size<i:=fun i hi=>hv9.elim (fun h=>.inl (by rw[h]at hi;exact(Option.some.inj hi).symm)) (fun h=>.inr (by have h2:=h i hi;simp at h2;omega));have hpw:=HM14.out.box.lt;have hcw:=HB14.out.lt;have hyw:=HY14.out.lt
    have h9p: ∀i,(Value.slice A9 (NJ+1) c9).ownBlock=some i→i≠p:=fun i hi=>by
     rcases hnw9 i hi with rfl|h
     ·exact HGP2.out
     ·omega
    have h9c: ∀j,TrB p (Value.slice A9 (NJ+1) c9) j→j≠b∧j≠y:=by
     rintro j (rfl|hj)
     ·exact HAP.out.2
     ·rcases hnw9 j hj with rfl|h
      ·exact HAP.out.1
      ·exact⟨by omega,by omega⟩
    have hlen9:(Lm.set k (nextR n cs NJ)++[qbX G (nd+1)]).length=NJ+1:=by rw[List.length_append,List.length_set,←HNJ.out];rfl
    have hown:Own w9 base 14 (.slice A9 (NJ+1) c9) (NJ+1) (qd2 (Lm.set k (nextR n cs NJ)++[qbX G (nd+1)])):=by
     rw[qgx,qj6];exact hown9
    have HM9:=qh (show RfM (w9.setCell ⟨p,12,none⟩ (.slice A9 (NJ+1) c9)) base p (.slice A9 (NJ+1) c9) u (Lm.set k (nextR n cs NJ)++[qbX G (nd+1)])from⟨BP9.set 12 _ (by show 12<13;omega),by rw[hlen9];exact hown.far h9p _,HM14.out.ge,h9p⟩);have HB9:=qh (BC9.far ⟨p,12,none⟩ HAP.out.2.1.symm (.slice A9 (NJ+1) c9));have HY9:=qh (BY9.far ⟨p,12,none⟩ HAP.out.2.2.symm (.slice A9 (NJ+1) c9));have HF9:=qh (((HF14.out.then hKX).trans (Far.qfQ (s:=fun i=>i=g) hg9 (fun i hi=>(Option.some.inj hi).symm)) (fun i hi e=>by subst e;exact HQG.out hi)).set ⟨p,12,none⟩ (.slice A9 (NJ+1) c9) (fun _=>.inl rfl));have HV9:Hid ((Value.slice A9 (NJ+1) c9).ownBlock=(Value.slice (some ⟨gt,ot,none⟩) L.length ct).ownBlock∨∀i,(Value.slice A9 (NJ+1) c9).ownBlock=some i→w.heap.size≤i):=qh (hv9.elim (fun h=>by rw[h];exact HOW.out) (fun h=>.inr fun i hi=>by have h1:=h i hi;have h2:=HF14.out.size;simp at h1;omega));have HA9:=qh h9c;clear hsz9 hnw9 hpw hcw hyw h9p h9c hown BP9 BC9 BY9 hKX hS9 hHeld q1 hown9 hg9 hv9 hS0 HM14 HB14 HY14 HF14 SK HOW HQG HGP2 hO14;generalize w9.setCell ⟨p,12,none⟩ (.slice A9 (NJ+1) c9)=w10 at *
    have HCL:Hid (Calls prog 42 #[.pointer (some ⟨p,0,none⟩),.int .i64 (NJ:Int),.string bs,.int .i64 (fr:Int)] w10 fun en w2=> ∃(x:Int) (ok:Bool),en=.returned (.tuple #[.int .i64 x,.bool ok])∧
      (ok=true→∃(f2:Nat) (cs2:List Nat) (Ts2:List TrT) (v2:Value) (L2:List NdR),x=(f2:Int)∧RdL base p (.slice (some ⟨gt,ot,none⟩) L.length ct) u L k i n bs P [q0,q1,q2,q3] b y QL w (m+1) f2 cs2 Ts2 v2 L2 w2)∧
      (ok=false→qbC base p (.slice (some ⟨gt,ot,none⟩) L.length ct) u L k i bs (qaZ P true n.sq n.depth (bs.data.toList.drop i)) w (.returned (.tuple #[.int .i64 0,.bool false])) w2)):=by
     have h9:=HM9.out;have h1:=HNJ.out;have h2:=HND.out;rw[h2]at h9;refine qh ((HIH.out w10 _ _ NJ fr G h9 ?_ HGO.out ?_).mono fun en w2 hr=>HI3.out.call HKL.out HX.out HS.out HG.out HCE.out.symm HM4.out (d:=n.depth+1) HD.out HNO.out HGO.out HF9.out HV9.out HA9.out HB9.out HY9.out (by rw[←h1];exact hr))
     ·rw [List.getElem?_append_right (by rw[List.length_set];omega),List.length_set,h1,Nat.sub_self];rfl
     ·rw [←h2,hlen9];have h3:=HNB.out;omega
    clear HM9 HF9 HV9 HA9 HB9 HY9 hlen9;go_upto_region 30 with (go_at_call 42;(with_reducible refine HCL.out.mono ?_);rintro e w11 ⟨x,ok,rfl,hyes,hno⟩;have HYES:=qh hyes;have HNOT:=qh hno;clear hyes hno)
    clear HCL;cases ok with
    |false=>
     have HPO:=qh (HNOT.out rfl);clear HYES HNOT;go_wp2_with fail
     exact bodyPost_ret (v:=.tuple #[.int .i64 0,.bool false]) (by simp[results,results42,go_sem]) rfl HPO.out
    |true=>
     obtain⟨f2,cs2,Ts2,v2,L2,rfl,hI2⟩:=HYES.out rfl;have HI2:=qh hI2;have ewm:IntKind.i64.wrap ((m:Int)+1)=((m+1:Nat):Int):=by rw[IntWalk.i64_in _ (by omega)];omega
     clear HYES HNOT hI2;go_wp2_with fail
     go_roundg gm
     case measure=>omega
     case rel=>exact⟨m+1,f2,cs2,Ts2,v2,L2,by omega,rfl,by go_num,HI2.out⟩
   ·have hne:(ce != 0)=true:=by simpa using hce0
    have HPO:=qh (HI3.out.no HX.out HS.out HG.out (.inl (by rw[←HCE.out];exact hce0)) HI3.out.far);clear hce0;go_wp2_with fail
    exact bodyPost_ret (v:=.tuple #[.int .i64 0,.bool false]) (by simp[results,results42,go_sem]) rfl HPO.out
theorem qji {P:SqD→List UInt8→Option (TrT×List UInt8)} {s:SqD} {d:Nat} {r:List UInt8}:qaZ P false s d (112::r)=none:=by
 have h:toldOf 112=none:=rfl;rw[qaZ,h];simp
theorem qnn {base p:Nat} {u:RuD} {bs:ByteArray} (hl:bs.size≤1200): ∀(k:Nat),k≤40→∀(W:World) (V:Value) (M:List NdR) (c f:Nat) (q:SqD),RfM W base p V u M→M[c]? =some (qbX q (40-k))→sqB q=true→M.length≤1+4*f→
  Calls prog 42 #[.pointer (some ⟨p,0,none⟩),.int .i64 (c:Int),.string bs,.int .i64 (f:Int)] W (qbC base p V u M c f bs (qbc k q (bs.data.toList.drop f)) W):=by
 intro k;induction k with
 |zero=>
  intro _ W V M c f q hM hc hq hL;rw[qdR];by_cases hx:bs.data.toList[f]? =some 112
  ·have h:=qhB hM hc hq hl hx (Nat.le_refl 40) (.inl (Nat.le_refl 40))
   rw[qem hx,qji];exact h
  ·exact qgN (fun _ _=>none) false hM hc rfl rfl hl hx
 |succ k ih=>
  intro hk W V M c f q hM hc hq hL;have e:40-(k+1)=39-k:=by omega
  rw[e]at hc;rw[qcW];by_cases hx:bs.data.toList[f]? =some 112
  ·cases hp:qaQ q with
   |none=>
    have h:=qhB hM hc hq hl hx (show 39-k≤40 by omega) (.inr hp);rw[qem hx,qgS hp];exact h
   |some l=>
    have h4:=(qcL hq hp).1;match l,h4,hp with
    |[q0,q1,q2,q3],_,hp=>
     refine qlm (n:=qbX q (39-k)) (P:=qbc k) (fun W' V' M' c' f' q' h1 h2 h3 h5=>ih (by omega) W' V' M' c' f' q' h1 ?_ h3 h5) hM hc ⟨hq,Nat.zero_le 2,by show 39-k≤40;omega⟩ rfl hl hx (by show 39-k<40;omega) hp hL;have e2:39-k+1=40-k:=by omega
     rw[←e2];exact h2
  ·exact qgN (qbc k) true hM hc rfl rfl hl hx
section
attribute [local go_sem] qaf qad
def qg7 (w:World) (u:RuD) (s:SqD) (bs:List UInt8) (en:Ending) (w':World):Prop:=
 Kept w w'∧if sqB s=true∧(qah s).2=0 then
  (match qbU s bs with
   |some M=> ∃p v L,en=.returned (.tuple #[.pointer (some ⟨p,0,none⟩),.int .i64 0])∧RfM w' w.heap.size p v u L∧qck L∧∃T,qbk M 0 T∧qbk (stR L).L 0 T
   |none=>en=.returned (.tuple #[.pointer none,.int .i64 270]))
 else en=.returned (.tuple #[.pointer none,.int .i64 (qfN s).2])
theorem qbC.root {base p:Nat} {v:Value} {u:RuD} {s:SqD} {bs:ByteArray} {w w1:World} {en:Ending} (hl:bs.size≤1200) (hs:sqB s=true) (h:qbC base p v u [qbX s 0] 0 0 bs (qbc 40 s bs.data.toList) w en w1):
  ∃(x:Int) (ok:Bool),en=.returned (.tuple #[.int .i64 x,.bool ok])∧Far (TrB p v) w w1∧(ok=false→qbU s bs.data.toList=none)∧(ok=true→x≠(bs.size:Int)→qbU s bs.data.toList=none)∧
   (ok=true→x=(bs.size:Int)→∃M v' L',qbU s bs.data.toList=some M∧RfM w1 base p v' u L'∧qck L'∧qhG L'≤65536∧∃T,qbk M 0 T∧qbk (stR L').L 0 T):=by
 have hp:=qiV s bs.data.toList;cases hP:qbc 40 s bs.data.toList with
 |none=>
  rw[hP]at h hp;obtain⟨rfl,hF⟩:=h;exact⟨0,false,rfl,hF,fun _=>hp,fun e=>(by cases e),fun e=>(by cases e)⟩
 |some x=>
  obtain⟨T,r⟩:=x;rw[hP]at h hp;simp only at hp;unfold qbC at h;simp only at h;obtain⟨h1,-,-,v',L',h4,h5,h6,-,h8,h9,-,h11,h12⟩:=h;refine⟨_,true,h4,h6,fun e=>(by cases e),fun _ hne=>?_,fun _ he=>?_⟩
  ·rw [if_neg (fun e=>hne (by rw[e];simp))]at hp
   exact hp
  ·have hr:r=[]:=by
    have h0:r.length=0:=by omega
    exact List.length_eq_zero_iff.1 h0
   rw[if_pos hr]at hp;obtain⟨M,hM,hT⟩:=hp;simp only[List.length_cons,List.length_nil]at h9 h11
   have hok:OKR L':=h12 (fun j m hj=>by
    cases j with
    |zero=>cases hj;exact⟨hs,Nat.zero_le 2,Nat.zero_le 40⟩
    |succ j=>simp at hj)
   obtain⟨hg,ht⟩:=qlk h11 hok (by omega);have hc:=hg.count;exact⟨M,v',L',hM,h5,hg,by omega,T,hT.tree,ht.tree⟩
set_option maxRecDepth 100000 in
set_option maxHeartbeats 6400000 in
theorem qlg {w:World} {u:RuD} (s:SqD) (bs:ByteArray) (hs:s.ok) (hl:bs.size≤1200):
  Calls prog 16 #[.agg #[.bool s.left.neg,.string s.left.n,.int .i64 s.left.e,.bool s.low.neg,.string s.low.n,.int .i64 s.low.e,.int .i64 s.e],.string bs,.agg (ruL u).toArray] w (qg7 w u s bs.data.toList):=by
 have RT:=qh (fun W=>qkS s W ⟨hs.left,hs.low⟩);have CV:=qh (fun(h:sqB s=true) W=>qhw s W h)
 have PX0:Hid (sqB s=false→∀w',Kept w w'→qg7 w u s bs.data.toList (.returned (.tuple #[.pointer none,.int .i64 240])) w'):=qh fun h w' hk=>by
  refine⟨hk,?_⟩;rw[if_neg (by rw[h];simp)];unfold qfN;rw[h];rfl
 have PX1:Hid (sqB s=true→(qah s).2≠0→∀w',Kept w w'→qg7 w u s bs.data.toList (.returned (.tuple #[.pointer none,.int .i64 (qah s).2])) w'):=qh fun h h2 w' hk=>by
  refine⟨hk,?_⟩;rw[if_neg (fun h3=>h2 h3.2)];unfold qfN;rw[if_pos h]
 have PX2:Hid (sqB s=true→(qah s).2=0→∀M w' p v L,qbU s bs.data.toList=some M→Kept w w'→RfM w' w.heap.size p v u L→qck L→(∃T,qbk M 0 T∧qbk (stR L).L 0 T)→qg7 w u s bs.data.toList (.returned (.tuple #[.pointer (some ⟨p,0,none⟩),.int .i64 0])) w'):=qh fun h h2 M w' p v L hr hk hM hg ht=>by
  refine⟨hk,?_⟩;rw[if_pos ⟨h,h2⟩,hr];exact⟨p,v,L,rfl,hM,hg,ht⟩
 have PX3:Hid (sqB s=true→(qah s).2=0→qbU s bs.data.toList=none→∀w',Kept w w'→qg7 w u s bs.data.toList (.returned (.tuple #[.pointer none,.int .i64 270])) w'):=qh fun h h2 hr w' hk=>by
  refine⟨hk,?_⟩;rw[if_pos ⟨h,h2⟩,hr]
 have RA:Hid (sqB s=true→∀(W:World) (base p:Nat) (V:Value),RfM W base p V u [qbX s 0]→Calls prog 42 #[.pointer (some ⟨p,0,none⟩),.int .i64 0,.string bs,.int .i64 0] W fun en w1=> ∃(x:Int) (ok:Bool),en=.returned (.tuple #[.int .i64 x,.bool ok])∧Far (TrB p V) W w1∧(ok=false→qbU s bs.data.toList=none)∧(ok=true→x≠(bs.size:Int)→qbU s bs.data.toList=none)∧
   (ok=true→x=(bs.size:Int)→∃M v' L',qbU s bs.data.toList=some M∧RfM w1 base p v' u L'∧qck L'∧qhG L'≤65536∧∃T,qbk M 0 T∧qbk (stR L').L 0 T)):=qh fun h W base p V hM=>
  (qnn hl 40 (Nat.le_refl _) W V [qbX s 0] 0 0 s hM rfl h (by simp)).mono fun en w1 h1=>qbC.root hl h h1
 have HL:=qh hl;obtain⟨RD,hRD⟩: ∃RD,RD=qbU s bs.data.toList:=⟨_,rfl⟩
 rw[←hRD]at PX2 PX3 RA;generalize qg7 w u s bs.data.toList=RP at *;generalize(qah s).2=ce at *;generalize sqB s=sb at *;obtain⟨RV,hRV⟩: ∃RV:List Value,RV=ruL u:=⟨_,rfl⟩
 have HRL:=qh (show RV.length=12 by rw[hRV];rfl);have HRV:=qh hRV;have HRF:=qh (show RV.toArray=#[.int .i64 u.k,.bool u.c.re.neg,.string u.c.re.n,.int .i64 u.c.re.e,.bool u.c.im.neg,.string u.c.im.n,.int .i64 u.c.im.e,.bool u.r.neg,.string u.r.n,.int .i64 u.r.e,.float .f64 u.x,.float .f64 u.y] by rw[hRV]);rw[←hRV];clear hs hl hRV hRD;obtain⟨⟨a0,a1,a2⟩,⟨a3,a4,a5⟩,a6⟩:=s;simp only at RT CV RA⊢;go_enter func16,ntmps16
 go_upto_region 1 with fail
 have B0:=Bx.new w (LC3 a0 a1 a2 a3 a4 a5 a6) 26 w.heap.size rfl;have K1:=Kept.new (Below.refl _ w) (.cells (LC3 a0 a1 a2 a3 a4 a5 a6).toArray 26);have B1:=Bx.new (w.alloc (.cells (LC3 a0 a1 a2 a3 a4 a5 a6).toArray 26)) RV 31 (w.heap.size+1) (by simp);replace B0:=qh (B0.kept (Kept.new (Below.refl _ _) (.cells RV.toArray 31)));replace B1:=qh B1;replace K1:=qh (Kept.new K1 (.cells RV.toArray 31));obtain⟨b,hb⟩: ∃b,b=w.heap.size:=⟨_,rfl⟩
 rw[←hb]at B0 B1⊢;have HB:=qh (show w.heap.size≤b by omega);clear hb;generalize(w.alloc _).alloc _=w1 at *;obtain⟨c0,c1,c2,c3,c4,c5,c6⟩:=B0.out.c7;go_wp2_with fail
 refine(RT.out _).mono ?_;rintro en w2 ⟨rfl,hk2⟩;have K2:=qh (K1.out.trans' hk2);replace B0:=qh (B0.out.kept hk2);replace B1:=qh (B1.out.kept hk2);clear hk2 RT K1 c0 c1 c2 c3 c4 c5 c6;cases sb with
 |false=>
  have HP:=PX0.out (by simp) _ K2.out;go_wp2_with fail
  exact HP
 |true=>
  go_upto_region 3 with fail
  refine wp_region_list ?_;refine wpList_plain rfl fun K hK=>qag (vs:=(LC3 a0 a1 a2 a3 a4 a5 a6)) (b:=b) (n:=7) _ rfl rfl B0.out rfl underlying26 rfl (by kernel_rfl) (hK _ _ ?_);clear hK K;refine wpList_plain rfl fun K hK=>?_;go_step;(with_reducible refine(CV.out (by simp) _).mono ?_)
  rintro en w3 ⟨c1,c2,c3,h1,h2,h3,rfl,hk3⟩;refine hK _ _ ?_;clear hK K CV;refine wpList_plain rfl fun K hK=>?_;go_step;refine hK _ _ ?_;clear hK K;refine wpList_plain rfl fun K hK=>?_;go_step;refine hK _ _ ?_;clear hK K;refine wpList_plain rfl fun K hK=>?_;go_step;refine hK _ _ ?_;clear hK K;refine wpList_plain rfl fun K hK=>?_;go_step;refine hK _ _ ?_;clear hK K;have K3:=qh (Kept.new (K2.out.trans' hk3) (.cells #[.complex .f64 0 0,.float .f64 0] 85));have BB:=qh (Bx.new w3 [.complex .f64 0 0,.float .f64 0] 85 w3.heap.size rfl);have hk4:=Kept.new hk3 (.cells #[.complex .f64 0 0,.float .f64 0] 85);have hlt:=B1.out.lt;replace B0:=qh (B0.out.kept hk4);replace B1:=qh (B1.out.kept hk4);obtain⟨d,hd⟩: ∃d,d=w3.heap.size:=⟨_,rfl⟩
  have HBD:=qh (show b+1<d by have:=hk3.size;omega);rw[←hd]at BB⊢;clear hd hk3 hk4 hlt K2;generalize World.alloc w3 _=w4 at *;refine wpList_plain rfl fun K hK=>qaa (vs:=[.complex .f64 c1 c2,.float .f64 c3]) (b:=d) (n:=2) _ _ rfl rfl rfl BB.out rfl rfl (by kernel_rfl) rfl (hK _ _ ?_);clear hK K;replace BB:=qh (BB.out.row [.complex .f64 c1 c2,.float .f64 c3]);replace B0:=qh (B0.out.off (g:=d) (by have:=HBD.out;omega) [.complex .f64 c1 c2,.float .f64 c3]);replace B1:=qh (B1.out.off (g:=d) (by have:=HBD.out;omega) [.complex .f64 c1 c2,.float .f64 c3]);replace K3:=qh (Kept.row K3.out (b:=d) (by have:=HBD.out;have:=HB.out;omega) [.complex .f64 c1 c2,.float .f64 c3]);generalize World.setRow w4 _ _=w5 at *;by_cases hce:ce=0
  ·subst hce
   have PX:=qh (PX2.out (by simp) (by simp));have PN:=qh (PX3.out (by simp) (by simp));clear PX0 PX1 PX2 PX3;go_upto_region 6 with fail
   refine wp_region_list ?_;refine wpList_plain rfl fun K hK=>qag (vs:=RV) (b:=b+1) (n:=12) _ rfl rfl B1.out HRL.out underlying31 rfl (by kernel_rfl) (hK _ _ ?_);clear hK K;refine wpList_plain rfl fun K hK=>qag (vs:=(LC3 a0 a1 a2 a3 a4 a5 a6)) (b:=b) (n:=7) _ rfl rfl B0.out rfl underlying26 rfl (by kernel_rfl) (hK _ _ ?_);clear hK K;refine wpList_plain rfl fun K hK=>qas (rdV (qbX ⟨⟨a0,a1,a2⟩,⟨a3,a4,a5⟩,a6⟩ 0)) _ _ rfl (by kernel_rfl) (hK _ _ ?_);clear hK K;refine wpList_plain rfl fun K hK=>?_;go_step;refine hK _ _ ?_;clear hK K;generalize hW6:World.mk _ _ _ _ _=w6;obtain rfl:w6=w5.alloc (.cells (rdV (qbX ⟨⟨a0,a1,a2⟩,⟨a3,a4,a5⟩,a6⟩ 0)).toArray 104):=by rw[←hW6];kernel_rfl
   clear hW6;refine wpList_plain rfl fun K hK=>qas (RV++[Value.slice (some ⟨w5.heap.size,0,none⟩) 1 1]) _ _ rfl (by rw[HRV.out];kernel_rfl) (hK _ _ ?_);clear hK K;refine wpList_plain rfl fun K hK=>?_;go_step;refine hK _ _ ?_;clear hK K;refine wpList_plain rfl fun K hK=>?_;go_step;refine hK _ _ ?_;clear hK K;have hK5:Kept w w5:=K3.out;have hz6:w.heap.size≤w5.heap.size:=hK5.size;have HO:=Own.new w5 (rdV (qbX ⟨⟨a0,a1,a2⟩,⟨a3,a4,a5⟩,a6⟩ 0)).toArray 104 (0,0) 1 14 (qd2 [qbX ⟨⟨a0,a1,a2⟩,⟨a3,a4,a5⟩,a6⟩ 0]) w.heap.size w5.heap.size rfl hz6 (by unfold maxLen;omega) rfl rfl (.inr rfl);have hK6:=Kept.new hK5 (.cells (rdV (qbX ⟨⟨a0,a1,a2⟩,⟨a3,a4,a5⟩,a6⟩ 0)).toArray 104);generalize hW6:w5.alloc (.cells (rdV (qbX ⟨⟨a0,a1,a2⟩,⟨a3,a4,a5⟩,a6⟩ 0)).toArray 104)=w6 at *;have hs6:w6.heap.size=w5.heap.size+1:=by rw[←hW6];simp
   clear hW6;have hB7:=Bx.new w6 (RV++[Value.slice (some ⟨w5.heap.size,0,none⟩) 1 1]) 80 (w5.heap.size+1) (by omega);have hM7:RfM (w6.alloc (.cells (RV++[Value.slice (some ⟨w5.heap.size,0,none⟩) 1 1]).toArray 80)) w.heap.size (w5.heap.size+1) (.slice (some ⟨w5.heap.size,0,none⟩) 1 1) u [qbX ⟨⟨a0,a1,a2⟩,⟨a3,a4,a5⟩,a6⟩ 0]:=⟨by rw[←HRV.out];exact hB7,HO.alloc _,by omega,fun i hi=>by cases hi;show w5.heap.size≠w5.heap.size+1;omega⟩
   have K7:=qh (Kept.new hK6 (.cells (RV++[Value.slice (some ⟨w5.heap.size,0,none⟩) 1 1]).toArray 80));have HRC:=qh (RA.out (by simp) _ _ _ _ hM7);have HLB:=qh hM7.ltB;clear HO hB7 hM7 hK5 hK6 hz6 hs6 RA K3;generalize w5.heap.size+1=pt at *;generalize Value.slice (some ⟨w5.heap.size,0,none⟩) 1 1=vt at *;generalize w6.alloc _=w7 at *;go_upto_region 8 with (go_at_call 42;(with_reducible refine HRC.out.mono ?_);rintro en w8 ⟨x,ok,rfl,hF,hn1,hn2,hy⟩;have K8:Hid (Kept w w8):=qh (K7.out.trans (hF.kept K7.out.size (fun k hk h=>by have:=(HLB.out k h).1;omega)));have HN1:=qh hn1;have HN2:=qh hn2;have HY:=qh hy;clear hF hn1 hn2 hy)
   clear HRC HLB;cases ok with
   |false=>
    have HP:=PN.out (HN1.out rfl) _ K8.out;clear HN1 HN2 HY PX PN;go_wp2_with fail
    exact HP
   |true=>
    by_cases hxs:x=(bs.size:Int)
    ·obtain⟨M,v',L',hr,hM8,hg,hc,ht⟩:=HY.out rfl hxs
     have CN:=qh (qkW hM8 hg);have HPX:=qh (fun w' (h:Kept w w') (h2:RfM w' w.heap.size pt v' u L')=>PX.out M w' pt v' L' hr h h2 hg ht);have HM8:=qh hM8;obtain⟨CC,hCC⟩: ∃CC,CC=qhG L':=⟨_,rfl⟩
     rw[←hCC]at CN hc;have hmg: ¬(65536:Int)<(CC:Int):=by omega
     clear HN1 HN2 HY PX PN hr hM8 hg hc ht hCC;subst hxs;go_wp2_with (go_at_call 43;(with_reducible refine CN.out.mono ?_);rintro e w9 ⟨rfl,hk9⟩;have K9:=qh (K8.out.trans' hk9);have HM9:=qh (HM8.out.kept hk9);clear hk9)
     exact HPX.out _ K9.out HM9.out
    ·have HP:=PN.out (HN2.out rfl hxs) _ K8.out
     clear HN1 HN2 HY PX PN;go_wp2_with fail
     exact HP
  ·have HP:=PX1.out (by simp) hce _ K3.out
   have hne:(ce != 0)=true:=by simpa using hce
   clear PX0 PX2 PX3 RA hce;go_wp2_with fail
   exact HP
end
end Go.Proofs.YtfdnledkcongaaaGreatDoor
