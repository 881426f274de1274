/- Texts of one claim laid together: NeW, NeR, GaX, Geo, Geb, GaY, RsA, RsB, RsC, VieA, VieB. -/
import Derived.Test.YtfdnledkcongaaaGreatDoorQ6
set_option linter.all false
namespace Go.Proofs.YtfdnledkcongaaaGreatDoor
open Go.RowKit Go.Proofs.Tryz
section
set_option maxHeartbeats 3200000
set_option maxRecDepth 100000
theorem qdW (W:World) (q:Nat) (hq:q=W.heap.size):qar (W.alloc (.cells #[.bool false,.slice none 0 0] 231)) q 0 0:=qaX.qp5 (qaX.new W _ _ q hq)
theorem qjf (p q:Nat) (x y:Int) (k j s:Nat) (W:World) (hk:k≤100000000) (hs:s≤1000000000) (h:qar W p x k) (hq:qar W q y j):
  Calls prog 110 #[.pointer (some ⟨q,0,none⟩),.pointer (some ⟨p,0,none⟩),.int .u64 (s:Int)] W fun e w'=>e=.returned (.pointer (some ⟨q,0,none⟩))∧qar w' q (x*2 ^ s) (k+s / 32+1)∧W.grownBy w' (some q):=by
 obtain⟨b,u,hb,hu⟩:=hq.box;exact qi2 p q b u x k s W h hk hs hb hu
theorem qom (p q:Nat) (x:Nat) (y:Int) (k j s:Nat) (W:World) (hk:k≤100000000) (hs:s≤1000000000) (h:qar W p (x:Int) k) (hq:qar W q y j):
  Calls prog 167 #[.pointer (some ⟨q,0,none⟩),.pointer (some ⟨p,0,none⟩),.int .u64 (s:Int)] W fun e w'=>e=.returned (.pointer (some ⟨q,0,none⟩))∧qar w' q ((x / 2 ^ s:Nat):Int) k∧W.grownBy w' (some q):=by
 obtain⟨b,u,hb,hu⟩:=hq.box;exact qi4 p q b u x s k W h hk hs hb hu
theorem qn4 (p r q:Nat) (x y z:Int) (k j i:Nat) (W:World) (hk:k≤100000000) (hj:j≤100000000) (h:qar W p x k) (h':qar W r y j) (hq:qar W q z i):
  Calls prog 188 #[.pointer (some ⟨q,0,none⟩),.pointer (some ⟨p,0,none⟩),.pointer (some ⟨r,0,none⟩)] W fun e w'=>e=.returned (.pointer (some ⟨q,0,none⟩))∧qar w' q (x-y) (max k j+1)∧W.grownBy w' (some q):=by
 obtain⟨b,u,hb,hu⟩:=hq.box;exact qoy p r q b u x y k j W h h' hk hj hb hu
theorem qar.over {W V W':World} {p q:Nat} {z y:Int} {k j:Nat} (h:qar W p z k) (hk:Kept W V) (hq:qar V q y j) (hg:V.grownBy W' (some q)) (hne:p≠q):qar W' p z k:=(h.kept hk).grown hq hg hne
def agS (n o:Nat):Int:=qdt ((n % 2 ^ o:Nat):Int) ((2 ^ (o-1):Nat):Int)
theorem qmQ {n o p:Nat} (hp:qbt n p) (h:p<o):n / 2 ^ o=0∧agS n o= -1:=by
 have h1:2 ^ p≤2 ^ (o-1):=Nat.pow_le_pow_right (by omega) (by omega);have h2:2 ^ (o-1)≤2 ^ o:=Nat.pow_le_pow_right (by omega) (by omega);have h3:=hp.1;have h4:n<2 ^ o:=by omega
 refine⟨Nat.div_eq_of_lt h4,?_⟩;unfold agS;rw[Nat.mod_eq_of_lt h4];exact qce (by omega)
theorem qkQ (d:DyD) (p:Nat) (w:World) (hd:qae d=true) (h0:d.num≠0) (hp:qbt d.num.natAbs p) (ht:(p:Int)-1+d.e<1024) (hq:qam p d.e≤d.e):
  Calls prog 177 #[.agg #[.bool d.neg,.string d.n,.int .i64 d.e],.int .i64 ((p:Int)-1+d.e)] w fun en w'=>en=.returned (.tuple #[.int .u64 ((qa8 d.num.natAbs d.e (qam p d.e):Nat):Int),.int .i64 (qam p d.e),.int .i64 0,.bool true])∧Kept w w':=by
 have hk53:=qjS d.e hp;have hkm:qa8 d.num.natAbs d.e (qam p d.e)=d.num.natAbs*2 ^ (d.e-qam p d.e).toNat:=by unfold qa8;rw[if_pos hq]
 have hpp:p≤8*16384:=qcT hp (qaj hd).1;have hxe:=(qaj hd).2.2.2;obtain⟨q,hqe⟩: ∃q,q=qam p d.e:=⟨_,rfl⟩
 have hl:q=max ((p:Int)-1+d.e-52) (-1074):=hqe;obtain⟨s,hs⟩: ∃s:Nat,(s:Int)=d.e-q:=⟨(d.e-q).toNat,by omega⟩
 rw[←hqe]at hk53 hkm hq⊢;rw[←hs,Int.toNat_natCast]at hkm;have hsz:=qdB hd;have hnum:qf1 d.n=d.num.natAbs:=(qdP d).symm;obtain⟨n,hn⟩: ∃n,n=d.num.natAbs:=⟨_,rfl⟩
 rw[←hn]at hk53 hkm hnum⊢;obtain⟨M,hM⟩: ∃M,M=qa8 n d.e q:=⟨_,rfl⟩
 rw[←hM]at hk53 hkm⊢;obtain⟨neg,sx,x⟩:=d;simp only at ht hq hl hs hsz hnum hxe hM⊢;obtain⟨x0,x1⟩:=hxe;obtain⟨T,hT⟩: ∃T:Int,T=(p:Int)-1+x:=⟨_,rfl⟩
 rw[←hT]at ht hl⊢;have hT0: -2000000≤T:=by omega
 have l1:(if T-52< -1074 then -1074 else T-52)=q:=by rw[hl];split<;>omega
 have l2:(if -1074<T-52 then T-52 else -1074)=q:=by rw[hl];split<;>omega
 have q0: -1074≤q:=by omega
 have q1:q≤971:=by omega
 replace hl:=hl.symm;replace hs:=hs.symm;have s9:s≤2097152:=by omega
 have u1:IntKind.u64.wrap (s:Int)=s:=by rw[IntKind.wrap_u64];omega
 have SET:Hid (∀W (p:Nat) (A:Option Addr) (c:Nat),qar W p 0 0→Row W A (bytesV sx.data.toList)→Calls prog 150 #[.pointer (some ⟨p,0,none⟩),.slice A sx.size c] W fun e w'=>e=.returned (.pointer (some ⟨p,0,none⟩))∧qar w' p (n:Int) 4097∧W.grownBy w' (some p)):=fun W p A c hi hr=>by
  obtain⟨b,u,h,hu⟩:=hi.box;have hl:sx.data.toList.length=sx.size:=by rw[Array.length_toList,ByteArray.size_data]
  have:=qd4 p b u A c sx.data.toList W (by omega) hr h hu;rw[hl,show qc8 sx.data.toList=n from hnum]at this;exact this.mono fun e w' ⟨h1,h2,h3⟩=>⟨h1,h2.more (by omega),h3⟩
 have HM:=qh hkm;clear hd h0 hp hqe hnum hn hM hT hpp hkm;go_enter func177,ntmps177
 go_upto_region 1 with fail
 obtain⟨b,w1,hw,hb,B0,K1,HB⟩:=qa4 w (LC0 neg sx x) 24;rw[←hw,←hb];clear hw hb;obtain⟨c0,c1,c2⟩:=B0.out.c3;have hb1:=B0.out.lt;go_upto_region 3 with ((with_reducible show wpList _ _ _ _ _ _);refine qcB _ rfl 22 97 5 _ rfl underlying22 underlying97 underlying5 sx rfl ?_ ?_)
 ·unfold maxLen;omega
 ·intro A c w2 hown hk2
  rw[qge]at hown;have HR:=qh hown.row;have I2:=qh ((qdW w1 w1.heap.size rfl).kept hk2);have K2:=qh ((Kept.new (Below.refl _ w1) _).trans' hk2);obtain⟨g,hg⟩: ∃g,g=w1.heap.size:=⟨_,rfl⟩
  rw[←hg]at I2⊢;have HG:=qh (show w1.heap.size≤g by omega);clear hown hk2 hg;go_upto_region 3 with (go_at_call 150;(with_reducible refine(SET.out _ _ _ _ I2.out HR.out).mono ?_);rintro e w3 ⟨rfl,h3,hg3⟩)
  have K3:=qh (qaD K2.out HG.out hg3);have I3:=qh h3;obtain⟨c0,c1,c2⟩:=(B0.out.kept K3.out).c3;have LSH:=qh (qfI g (n:Int) 4097 s w3 (by omega) (by omega) I3.out);clear hg3 h3 K2 I2 HR SET
  go_wp2_with (first
   |(go_at_call 110;(with_reducible refine LSH.out.mono ?_);rintro e w4 ⟨rfl,h4,hg4⟩;have K4:=qh (qaD K3.out HG.out hg4);have UI:Hid (Calls prog 187 #[.pointer (some ⟨g,0,none⟩)] w4 fun e w'=>e=.returned (.int .u64 (M:Int))∧∃m,w'=w4.drewN m):=(qij g _ _ w4 h4 (by omega)).mono (fun e w' ⟨h1,h2⟩=>⟨by rw[h1];congr 3;rw[qcY,Int.natAbs_natCast,←HM.out];exact Nat.mod_eq_of_lt (by omega),h2⟩);clear hg4 h4)
   |(go_at_call 187;(with_reducible refine UI.out.mono ?_);rintro e w5 ⟨rfl,nd,hw5⟩;subst hw5))
  exact bodyPost_ret (v:=.tuple #[.int .u64 (M:Int),.int .i64 q,.int .i64 0,.bool true]) (by simp[results,results177,go_sem]) rfl ⟨rfl,qaC (K1.out.trans' K4.out) nd⟩
theorem qnh (d:DyD) (p:Nat) (w:World) (hd:qae d=true) (h0:d.num≠0) (hp:qbt d.num.natAbs p) (ht:(p:Int)-1+d.e<1024) (hq: ¬qam p d.e≤d.e):
  Calls prog 177 #[.agg #[.bool d.neg,.string d.n,.int .i64 d.e],.int .i64 ((p:Int)-1+d.e)] w fun en w'=>en=.returned (.tuple #[.int .u64 ((d.num.natAbs / 2 ^ (qam p d.e-d.e).toNat:Nat):Int),.int .i64 (qam p d.e),.int .i64 (agS d.num.natAbs (qam p d.e-d.e).toNat),.bool false])∧Kept w w':=by
 have hpp:p≤8*16384:=qcT hp (qaj hd).1;have hxe:=(qaj hd).2.2.2;obtain⟨q,hqe⟩: ∃q,q=qam p d.e:=⟨_,rfl⟩
 have hl:q=max ((p:Int)-1+d.e-52) (-1074):=hqe;rw[←hqe]at hq⊢;obtain⟨s,hs⟩: ∃s:Nat,(s:Int)=q-d.e:=⟨(q-d.e).toNat,by omega⟩
 rw[←hs,Int.toNat_natCast];have hsz:=qdB hd;have hnum:qf1 d.n=d.num.natAbs:=(qdP d).symm;obtain⟨n,hn⟩: ∃n,n=d.num.natAbs:=⟨_,rfl⟩
 rw[←hn]at hnum hp⊢;have hn1:n<2 ^ p:=hp.1
 have hM54:n / 2 ^ s<18446744073709551616:=by
  have h1:p≤s+53:=by have:q=max ((p:Int)-1+d.e-52) (-1074):=hl;omega
  have h2:n / 2 ^ s<2 ^ 53:=by
   rw[Nat.div_lt_iff_lt_mul (Nat.pow_pos (by omega)),←Nat.pow_add];exact Nat.lt_of_lt_of_le hn1 (Nat.pow_le_pow_right (by omega) (by omega))
  have e53:(2:Nat) ^ 53=9007199254740992:=by decide
  omega
 have hsm:=qh (fun h:p<s=>qmQ hp h);have hbl:=qh hp;obtain⟨ag,hag⟩: ∃a,a=agS n s:=⟨_,rfl⟩
 rw[←hag]at hsm⊢;have HAG:=qh hag;have hn0:n≠0:=by omega
 obtain⟨neg,sx,x⟩:=d;simp only at ht hq hl hs hsz hnum hxe⊢;obtain⟨x0,x1⟩:=hxe;obtain⟨T,hT⟩: ∃T:Int,T=(p:Int)-1+x:=⟨_,rfl⟩
 rw[←hT]at ht hl⊢;have hT0: -2000000≤T:=by omega
 have l1:(if T-52< -1074 then -1074 else T-52)=q:=by rw[hl];split<;>omega
 have l2:(if -1074<T-52 then T-52 else -1074)=q:=by rw[hl];split<;>omega
 have q0: -1074≤q:=by omega
 have q1:q≤971:=by omega
 replace hl:=hl.symm;replace hs:=hs.symm;have s9:s≤2097152:=by omega
 have s0:1≤s:=by omega
 have u3:IntKind.u64.wrap ((s:Int)-1)=((s-1:Nat):Int):=by rw[IntKind.wrap_u64];omega
 have u1:IntKind.u64.wrap (s:Int)=s:=by rw[IntKind.wrap_u64];omega
 have SET:Hid (∀W (p:Nat) (A:Option Addr) (c:Nat),qar W p 0 0→Row W A (bytesV sx.data.toList)→Calls prog 150 #[.pointer (some ⟨p,0,none⟩),.slice A sx.size c] W fun e w'=>e=.returned (.pointer (some ⟨p,0,none⟩))∧qar w' p (n:Int) 4097∧W.grownBy w' (some p)):=fun W p A c hi hr=>by
  obtain⟨b,u,h,hu⟩:=hi.box;have hl:sx.data.toList.length=sx.size:=by rw[Array.length_toList,ByteArray.size_data]
  have:=qd4 p b u A c sx.data.toList W (by omega) hr h hu;rw[hl,show qc8 sx.data.toList=n from hnum]at this;exact this.mono fun e w' ⟨h1,h2,h3⟩=>⟨h1,h2.more (by omega),h3⟩
 clear hd h0 hp hqe hnum hn hT hag hn1;go_enter func177,ntmps177
 go_upto_region 1 with fail
 obtain⟨b,w1,hw,hb,B0,K1,HB⟩:=qa4 w (LC0 neg sx x) 24;rw[←hw,←hb];clear hw hb;obtain⟨c0,c1,c2⟩:=B0.out.c3;have hb1:=B0.out.lt;go_upto_region 3 with ((with_reducible show wpList _ _ _ _ _ _);refine qcB _ rfl 22 97 5 _ rfl underlying22 underlying97 underlying5 sx rfl ?_ ?_)
 ·unfold maxLen;omega
 ·intro A c w2 hown hk2
  rw[qge]at hown;have HR:=qh hown.row;have I2:=qh ((qdW w1 w1.heap.size rfl).kept hk2);have K2:=qh ((Kept.new (Below.refl _ w1) _).trans' hk2);obtain⟨g,hg⟩: ∃g,g=w1.heap.size:=⟨_,rfl⟩
  rw[←hg]at I2⊢;have HG:=qh (show w1.heap.size≤g by omega);clear hown hk2 hg;go_upto_region 3 with (go_at_call 150;(with_reducible refine(SET.out _ _ _ _ I2.out HR.out).mono ?_);rintro e w3 ⟨rfl,h3,hg3⟩)
  have K3:=qh (qaD K2.out HG.out hg3);have I3:=qh h3;obtain⟨c0,c1,c2⟩:=(B0.out.kept K3.out).c3
  have BL:Hid (Calls prog 149 #[.pointer (some ⟨g,0,none⟩)] w3 fun e w'=>e=.returned (.int .i64 (p:Int))∧w'=w3):=
   (qgr g (n:Int) 4097 w3 I3.out (by omega)).mono fun e w' ⟨t',h1,h2,h3,h4⟩=>⟨by rw[h1];rw[Int.natAbs_natCast]at h2;rw[h2.uniq hbl.out],h4⟩
  clear hg3 h3 K2 I2 HR SET;by_cases hps:p<s
  ·have hpi:(p:Int)<s:=by omega
   have HZ:=qh (hsm.out hps);clear hsm;go_wp2_with (go_at_call 149;(with_reducible refine BL.out.mono ?_);rintro e w4 ⟨rfl,hw4⟩;replace hw4:=hw4.symm;subst hw4)
   exact bodyPost_ret (v:=.tuple #[.int .u64 0,.int .i64 q,.int .i64 (-1),.bool false]) (by simp[results,results177,go_sem]) rfl ⟨by rw[HZ.out.1,HZ.out.2];rfl,K1.out.trans' K3.out⟩
  ·have hpi: ¬(p:Int)<s:=by omega
   clear hsm;go_upto_region 8 with (go_at_call 149;(with_reducible refine BL.out.mono ?_);rintro e w4 ⟨rfl,hw4⟩;replace hw4:=hw4.symm;subst hw4)
   have hgw:=I3.out.lt;have RSH:=qh (qom g w3.heap.size n 0 4097 0 s (w3.alloc (.cells #[.bool false,.slice none 0 0] 231)) (by omega) (by omega) (I3.out.kept (Kept.new (Below.refl _ _) _)) (qdW w3 _ rfl));clear BL;go_upto_region 9 with (go_at_call 167;(with_reducible refine RSH.out.mono ?_);rintro e w5 ⟨rfl,h5,hg5⟩)
   obtain⟨g1,hg1⟩: ∃g,g=w3.heap.size:=⟨_,rfl⟩
   rw[←hg1]at h5 hg5⊢;have I5:=qh (I3.out.over (Kept.new (Below.refl _ _) _) (qdW w3 g1 hg1) hg5 (by omega));have J5:=qh h5;have K5:=qh (qaD (Kept.new K3.out _) (show w1.heap.size≤g1 by have:=K3.out.size;omega) hg5);have g1g:g≠g1:=by omega
   have G1:=qh (show w1.heap.size≤g1 by have:=K3.out.size;omega);clear hg1 hg5 h5 RSH I3 hgw K3;have LSH:=qh (qjf g1 (w5.heap.size+1) ((n / 2 ^ s:Nat):Int) 0 4097 0 s ((w5.alloc (.cells #[.bool false,.slice none 0 0] 231)).alloc (.cells #[.bool false,.slice none 0 0] 231)) (by omega) (by omega) (J5.out.kept (Kept.new (Kept.new (Below.refl _ _) _) _)) (qdW _ _ (by simp)));have hgw:=I5.out.lt;have hgw1:=J5.out.lt
   go_upto_region 10 with (first
    |(go_at_call 110;(with_reducible refine LSH.out.mono ?_);rintro e w6 ⟨rfl,h6,hg6⟩;have X6:=qdW (w5.alloc (.cells #[.bool false,.slice none 0 0] 231)) (w5.heap.size+1) (by simp);have I6:=qh (I5.out.over (Kept.new (Kept.new (Below.refl _ _) _) _) X6 hg6 (by omega));have J6:=qh (J5.out.over (Kept.new (Kept.new (Below.refl _ _) _) _) X6 hg6 (by omega));have N6:=qh ((qdW w5 w5.heap.size rfl).over (Kept.new (Below.refl _ _) _) X6 hg6 (by omega));have K6:=qh (qaD (Kept.new (Kept.new K5.out _) _) (show w1.heap.size≤w5.heap.size+1 by have:=K5.out.size;omega) hg6);have SUB:=qh (qn4 g (w5.heap.size+1) w5.heap.size _ _ 0 4097 100000 0 w6 (by omega) (by omega) I6.out (h6.more (j:=100000) (by omega)) N6.out);clear X6 h6 hg6)
    |(go_at_call 188;(with_reducible refine SUB.out.mono ?_);rintro e w7 ⟨rfl,h7,hg7⟩))
   obtain⟨g2,hg2⟩: ∃g,g=w5.heap.size:=⟨_,rfl⟩
   rw[←hg2]at h7 hg7 N6⊢;have J7:=qh (J6.out.over (Below.refl _ _) N6.out hg7 (by omega));have R7:=qh h7;have K7:=qh (qaD K6.out (show w1.heap.size≤g2 by have:=K5.out.size;omega) hg7);have hg12:g1≠g2:=by omega
   clear hg2 hg7 h7 SUB LSH I6 J6 N6 K6 I5 J5 K5 hgw hgw1;have NEW:=qh (qjK 1 (w7.alloc (.cells #[.bool false,.slice none 0 0] 231)) (by omega) (by omega));have hgw1:=J7.out.lt;have hgw2:=R7.out.lt
   go_upto_region 11 with (first
    |(go_at_call 165;(with_reducible refine NEW.out.mono ?_);rintro e w8 ⟨r,rfl,hr,h8,hk8⟩;have Q8:=(qdW w7 w7.heap.size rfl).kept hk8;have hne8:w7.heap.size≠r:=(by simp at hr;omega);have LSH:=qh (qjf r w7.heap.size 1 0 2 0 (s-1) w8 (by omega) (by omega) h8 Q8);have K8:=qh ((Kept.new (Below.refl _ w7) _).trans' hk8);have Q88:=qh Q8;clear hk8 h8 Q8)
    |(go_at_call 110;(with_reducible refine LSH.out.mono ?_);rintro e w9 ⟨rfl,h9,hg9⟩))
   have J9:=qh (J7.out.over K8.out Q88.out hg9 (by omega));have R9:=qh (R7.out.over K8.out Q88.out hg9 (by omega));have H9:=qh (h9.more (j:=100000) (by omega));have K9:=qh (qaD (K7.out.trans' K8.out) (show w1.heap.size≤w7.heap.size from K7.out.size) hg9);obtain⟨g4,hg4⟩: ∃g,g=w7.heap.size:=⟨_,rfl⟩
   rw[←hg4]at H9⊢;clear hg9 h9 LSH NEW J7 R7 K7 K8 Q88 hgw1 hgw2 hg4 hr hne8;have UI:Hid (Calls prog 187 #[.pointer (some ⟨g1,0,none⟩)] w9 fun e w'=>e=.returned (.int .u64 ((n / 2 ^ s:Nat):Int))∧∃m,w'=w9.drewN m):=(qij g1 _ _ w9 J9.out (by omega)).mono (fun e w' ⟨h1,h2⟩=>⟨by rw[h1];congr 3;rw[Int.natAbs_natCast];exact Nat.mod_eq_of_lt hM54,h2⟩)
   have CMP:Hid (∀k,Calls prog 111 #[.pointer (some ⟨g2,0,none⟩),.pointer (some ⟨g4,0,none⟩)] (w9.drewN k) fun e w'=>e=.returned (.int .i64 ag)∧Kept (w9.drewN k) w'):=fun k=>by
    have h1:=qlG g2 g4 _ _ _ _ (w9.drewN k) (by omega) (by omega) (R9.out.kept (qaC (Below.refl _ _) k)) (H9.out.kept (qaC (Below.refl _ _) k))
    have e1:(n:Int)-((n / 2 ^ s:Nat):Int)*2 ^ s=((n % 2 ^ s:Nat):Int):=by
     have:=Nat.div_add_mod n (2 ^ s)
     have e2:((n / 2 ^ s:Nat):Int)*2 ^ s=((2 ^ s*(n / 2 ^ s):Nat):Int):=by
      rw[Int.natCast_mul,Int.natCast_pow,Int.mul_comm];rfl
     rw[e2];omega
    have e3:(1:Int)*2 ^ (s-1)=((2 ^ (s-1):Nat):Int):=by rw[Int.one_mul,Int.natCast_pow];rfl
    rw[e1,e3]at h1;rw[HAG.out];exact h1
   clear J9 R9 H9
   go_wp2_with (first
    |(go_at_call 187;(with_reducible refine UI.out.mono ?_);rintro e w10 ⟨rfl,nd,hw10⟩;subst hw10)
    |(go_at_call 111;(with_reducible refine(CMP.out _).mono ?_);rintro e w11 ⟨rfl,hk11⟩))
   exact bodyPost_ret (v:=.tuple #[.int .u64 ((n / 2 ^ s:Nat):Int),.int .i64 q,.int .i64 ag,.bool false]) (by simp[results,results177,go_sem]) rfl ⟨rfl,Kept.trans' (qaC (K1.out.trans' K9.out) nd) hk11⟩
theorem qgi (ag:Int) (odd:Bool) (w:World):Calls prog 143 #[.int .i64 ag,.bool odd] w fun e w'=>e=.returned (.bool (decide (0<ag)||(decide (ag=0)&&odd)))∧w'=w:=by
 by_cases h1:0<ag
 ·have h2: ¬ag=0:=by omega
  go_enter func143,ntmps143
  go_wp2
  go_ret
  exact⟨by simp[h1],rfl⟩
 ·by_cases h2:ag=0
  ·subst h2
   go_enter func143,ntmps143
   go_wp2
   go_ret
   exact⟨by simp,rfl⟩
  ·go_enter func143,ntmps143
   go_wp2
   go_ret
   exact⟨by simp[h1,h2],rfl⟩
theorem qnH {n o:Nat} (ho:1≤o):qfR n o=n / 2 ^ o+(if (decide (0<agS n o)||(decide (agS n o=0)&&decide (n / 2 ^ o % 2=1)))=true then 1 else 0):=by
 unfold qfR;congr 1
 have h1:2 ^ o=2*2 ^ (o-1):=by
  obtain⟨k,rfl⟩: ∃k,o=k+1:=⟨o-1,by omega⟩
  rw[Nat.pow_succ,Nat.add_sub_cancel];omega
 have e:(2 ^ o<2*(n % 2 ^ o)∨2 ^ o=2*(n % 2 ^ o)∧n / 2 ^ o % 2=1)↔((decide (0<agS n o)||(decide (agS n o=0)&&decide (n / 2 ^ o % 2=1)))=true):=by
  rw[Bool.or_eq_true,Bool.and_eq_true,decide_eq_true_eq,decide_eq_true_eq,decide_eq_true_eq];unfold agS;generalize n % 2 ^ o=r at *;generalize n / 2 ^ o=d at *;generalize 2 ^ (o-1)=h at *;rw[h1];unfold qdt;by_cases a1:(r:Int)<h
  ·rw [if_pos a1];constructor
   ·rintro(h|⟨h,-⟩)<;>omega
   ·rintro(h|⟨h,-⟩)<;>omega
  ·rw [if_neg a1]
   by_cases a2:(h:Int)<r
   ·rw [if_pos a2];constructor
    ·intro;exact .inl (by omega)
    ·intro;exact .inl (by omega)
   ·rw [if_neg a2];constructor
    ·rintro(h|⟨h,h'⟩)
     ·omega
     ·exact .inr ⟨rfl,h'⟩
    ·rintro(h|⟨h,h'⟩)
     ·omega
     ·exact .inr ⟨by omega,h'⟩
 by_cases h2:(2 ^ o<2*(n % 2 ^ o)∨2 ^ o=2*(n % 2 ^ o)∧n / 2 ^ o % 2=1)
 ·rw [if_pos h2,if_pos (e.1 h2)]
 ·rw [if_neg h2,if_neg (fun h=>h2 (e.2 h))]
theorem qm4 (w:World):Calls prog 108 #[.agg #[.bool false,.string ⟨#[]⟩,.int .i64 0]] w fun en w'=>en=.returned (.tuple #[.int .i64 0,.bool false])∧Kept w w':=by
 have SX:Hid (∀W,Calls prog 20 #[.agg #[.bool false,.string ⟨#[]⟩,.int .i64 0]] W fun e w'=>e=.returned (.int .i64 0)∧Kept W w'):=fun W=>qcK zD W qdF;go_enter func108,ntmps108
 go_wp2_with (go_at_call 20;(with_reducible refine(SX.out _).mono ?_);rintro e w4 ⟨rfl,hk4⟩)
 go_ret2
 exact⟨rfl,(Kept.new (Below.refl _ _) _).trans' hk4⟩
end
section
set_option maxRecDepth 100000
attribute [local go_sem] run_float_arith qaM qaN qaw qaf qad
theorem qj4 (neg:Bool) (r:Nat):Ieee.double.word neg r=if neg then 9223372036854775808+r else r:=by
 unfold Ieee.Format.word;rw[show Ieee.double.signWeight=9223372036854775808 from by decide]
theorem qoQ {m:Nat} (hm:m<18446744073709551616):bits BinOp.and .u64 (m:Int) 1=((m % 2:Nat):Int):=by
 have:=qeu (x:=m) (y:=1) hm (by omega);rw[show((1:Nat):Int)=1 from rfl]at this;rw[this,Nat.and_one_is_mod]
theorem qj0 (m:Nat) (q:Int):qaJ m q<9223372036854775808:=by
 have:qaJ m q≤qaS:=Nat.min_le_right ..;unfold qaS at this;omega
set_option maxHeartbeats 6400000 in
theorem qkt (d:DyD) (w:World) (hd:qae d=true):
  Calls prog 142 #[.agg #[.bool d.neg,.string d.n,.int .i64 d.e],.func (.func 143) #[] #[]] w fun en w'=>en=.returned (.tuple #[.float .f64 (qaU d),.int .i64 0])∧Kept w w':=by
 have CK:Hid (∀W,Calls prog 19 #[.agg #[.bool d.neg,.string d.n,.int .i64 d.e]] W fun e w'=>e=.returned (.int .i64 0)∧Kept W w'):=fun W=>by
  have:=qbq d W (qcZ hd);unfold qcG at this;rw[hd]at this;exact this
 have LDX:=qh qer;by_cases h0:d.num=0
 ·obtain rfl:=(qaj hd).2.1 h0
  have TP:=qh qm4;rw[show qaU zD=0 by decide +kernel];clear h0 hd;show Calls prog 142 #[.agg #[.bool false,.string ⟨#[]⟩,.int .i64 0],.func (.func 143) #[] #[]] w fun en w'=>en=.returned (.tuple #[.float .f64 0,.int .i64 0])∧Kept w w';replace CK:Hid (∀W,Calls prog 19 #[.agg #[.bool false,.string ⟨#[]⟩,.int .i64 0]] W fun e w'=>e=.returned (.int .i64 0)∧Kept W w'):=CK;go_enter func142,ntmps142
  go_upto_region 1 with fail
  obtain⟨b,w1,hw,hb,B0,K1,HB⟩:=qa4 w (LC0 false ⟨#[]⟩ 0) 24;rw[←hw,←hb];clear hw hb;obtain⟨c0,c1,c2⟩:=B0.out.c3
  go_wp2_with (first
   |(go_at_call 19;(with_reducible refine(CK.out _).mono ?_);rintro e w3 ⟨rfl,hk3⟩;have K3:=qh hk3;obtain⟨c0,c1,c2⟩:=(B0.out.kept K3.out).c3)
   |(go_at_call 108;(with_reducible refine(TP.out _).mono ?_);rintro e w4 ⟨rfl,hk4⟩;have K4:=qh (K3.out.trans' hk4)))
  go_ret2
  exact⟨rfl,K1.out.trans' K4.out⟩
 ·obtain⟨p,hp⟩:=qdg d.num.natAbs
  have TP:=qh (fun W=>qg1 d p W hd h0 hp);have HR:=qh (qg4 h0 hp);have hxe:=(qaj hd).2.2.2;have hpp:p≤8*16384:=qcT hp (qaj hd).1;obtain⟨T,hT⟩: ∃T:Int,T=(p:Int)-1+d.e:=⟨_,rfl⟩
  have b1:bits BinOp.and .u64 9007199254740991 1=1:=by decide
  by_cases ht:1024≤T
  ·have HR:=qh (qh6 h0 hp (by omega))
   have hT': ¬T<1024:=by omega
   have LD:Hid (∀W,Calls prog 178 #[.float .f64 (Ieee.double.nearest false 9007199254740992 0),.int .i64 971] W fun e w'=>e=.returned (.float .f64 qaS)∧w'=W):=fun W=>by
    have:=qer 9007199254740992 971 W (by omega) (by omega) (by omega) (.inl (by omega));rwa [show qaJ 9007199254740992 971=qaS by decide +kernel]at this
   have CS:=qh (qdZ qaS (by decide));have N1:=qh (qgi 1 true);have hF:floatOfInt .f64 9007199254740992=Ieee.double.nearest false 9007199254740992 0:=qeO 9007199254740992;generalize Ieee.double.nearest false 9007199254740992 0=X at *;rw[qj4]at HR;generalize qaS=IR at *;rw[←hT]at TP;generalize qaU d=R at *;obtain⟨neg,sx,x⟩:=d;simp only at CK TP HR⊢;clear LDX h0 hp hxe hpp hT hd ht;cases neg with
   |false=>
    have HR2:=qh (show R=IR by rw[HR.out];simp);clear HR;go_enter func142,ntmps142
    go_upto_region 1 with fail
    obtain⟨b,w1,hw,hb,B0,K1,HB⟩:=qa4 w (LC0 false sx x) 24;rw[←hw,←hb];clear hw hb;obtain⟨c0,c1,c2⟩:=B0.out.c3
    go_wp2_with (first
     |(go_at_call 19;(with_reducible refine(CK.out _).mono ?_);rintro e w3 ⟨rfl,hk3⟩;have K3:=qh hk3;obtain⟨c0,c1,c2⟩:=(B0.out.kept K3.out).c3)
     |(go_at_call 108;(with_reducible refine(TP.out _).mono ?_);rintro e w4 ⟨rfl,hk4⟩;have K4:=qh (K3.out.trans' hk4);obtain⟨c0,c1,c2⟩:=(B0.out.kept K4.out).c3)
     |(go_at_call 177;(with_reducible refine(CT.out _).mono ?_);rintro e w5 ⟨rfl,hk5⟩;have K5:=qh (K4.out.trans' hk5);obtain⟨c0,c1,c2⟩:=(B0.out.kept K5.out).c3)
     |(go_at_call 143;(with_reducible refine(N1.out _).mono ?_);rintro e w6 ⟨rfl,hw⟩;replace hw:=hw.symm;subst hw)
     |(go_at_call 178;(with_reducible refine(LD.out _).mono ?_);rintro e w6 ⟨rfl,hw⟩;replace hw:=hw.symm;subst hw)
     |(go_at_call 179;(with_reducible refine(CS.out _).mono ?_);rintro e w6 ⟨rfl,hw⟩;replace hw:=hw.symm;subst hw))
    go_ret2
    exact⟨by rw[HR2.out];rfl,K1.out.trans' K4.out⟩
   |true=>
    have HR2:=qh (show R=9223372036854775808+IR by rw[HR.out];simp);clear HR;go_enter func142,ntmps142
    go_upto_region 1 with fail
    obtain⟨b,w1,hw,hb,B0,K1,HB⟩:=qa4 w (LC0 true sx x) 24;rw[←hw,←hb];clear hw hb;obtain⟨c0,c1,c2⟩:=B0.out.c3
    go_wp2_with (first
     |(go_at_call 19;(with_reducible refine(CK.out _).mono ?_);rintro e w3 ⟨rfl,hk3⟩;have K3:=qh hk3;obtain⟨c0,c1,c2⟩:=(B0.out.kept K3.out).c3)
     |(go_at_call 108;(with_reducible refine(TP.out _).mono ?_);rintro e w4 ⟨rfl,hk4⟩;have K4:=qh (K3.out.trans' hk4);obtain⟨c0,c1,c2⟩:=(B0.out.kept K4.out).c3)
     |(go_at_call 177;(with_reducible refine(CT.out _).mono ?_);rintro e w5 ⟨rfl,hk5⟩;have K5:=qh (K4.out.trans' hk5);obtain⟨c0,c1,c2⟩:=(B0.out.kept K5.out).c3)
     |(go_at_call 143;(with_reducible refine(N1.out _).mono ?_);rintro e w6 ⟨rfl,hw⟩;replace hw:=hw.symm;subst hw)
     |(go_at_call 178;(with_reducible refine(LD.out _).mono ?_);rintro e w6 ⟨rfl,hw⟩;replace hw:=hw.symm;subst hw)
     |(go_at_call 179;(with_reducible refine(CS.out _).mono ?_);rintro e w6 ⟨rfl,hw⟩;replace hw:=hw.symm;subst hw))
    go_ret2
    exact⟨by rw[HR2.out];rfl,K1.out.trans' K4.out⟩
  ·have hT':T<1024:=by omega
   rw[qj4]at HR;obtain⟨q,hq⟩: ∃q,q=qam p d.e:=⟨_,rfl⟩
   have hql:q=max ((p:Int)-1+d.e-52) (-1074):=hq;have hk53:=qjS d.e hp
   have hkg:4503599627370496≤qa8 d.num.natAbs d.e (qam p d.e)∨q= -1074:=by
    by_cases h: -1074<qam p d.e
    ·exact .inl (qjQ d.e (by omega) hp h)
    ·right;omega
   have CTE:=qh (fun W=>qkQ d p W hd h0 hp (by omega));have CTR:=qh (fun W=>qnh d p W hd h0 hp (by omega));rw[←hq]at hk53 hkg
   have HRP:Hid (qaU d=if d.neg=true then 9223372036854775808+qaJ (qa8 d.num.natAbs d.e q) q else qaJ (qa8 d.num.natAbs d.e q) q):=by
    rw[hq];exact HR.out
   rw[←hq,←hT]at CTE CTR;rw[←hT]at TP;have q0: -1074≤q:=by omega
   have q1:q≤971:=by omega
   by_cases hx:q≤d.e
   ·have CT:=qh (fun W=>CTE.out W hx)
    obtain⟨M,hM⟩: ∃M,M=qa8 d.num.natAbs d.e q:=⟨_,rfl⟩
    rw[←hM]at CT HRP hk53 hkg;have LD:=qh (fun W=>qer M q W hk53 q0 q1 hkg);have CS:=qh (qdZ (qaJ M q) (qj0 M q));have hF:floatOfInt .f64 (M:Int)=Ieee.double.nearest false M 0:=qeO M;generalize Ieee.double.nearest false M 0=X at *;generalize qaJ M q=PK at *;replace HR:=HRP;generalize qaU d=R at *;have N1:=qh qgi;obtain⟨neg,sx,x⟩:=d;simp only at CK TP CT HR⊢;clear LDX HRP CTE CTR h0 hp hxe hpp hT hd ht hq hql hM hkg hx b1;cases neg with
    |false=>
     have HR2:=qh (show R=PK by rw[HR.out];simp);clear HR;go_enter func142,ntmps142
     go_upto_region 1 with fail
     obtain⟨b,w1,hw,hb,B0,K1,HB⟩:=qa4 w (LC0 false sx x) 24;rw[←hw,←hb];clear hw hb;obtain⟨c0,c1,c2⟩:=B0.out.c3
     go_wp2_with (first
      |(go_at_call 19;(with_reducible refine(CK.out _).mono ?_);rintro e w3 ⟨rfl,hk3⟩;have K3:=qh hk3;obtain⟨c0,c1,c2⟩:=(B0.out.kept K3.out).c3)
      |(go_at_call 108;(with_reducible refine(TP.out _).mono ?_);rintro e w4 ⟨rfl,hk4⟩;have K4:=qh (K3.out.trans' hk4);obtain⟨c0,c1,c2⟩:=(B0.out.kept K4.out).c3)
      |(go_at_call 177;(with_reducible refine(CT.out _).mono ?_);rintro e w5 ⟨rfl,hk5⟩;have K5:=qh (K4.out.trans' hk5);obtain⟨c0,c1,c2⟩:=(B0.out.kept K5.out).c3)
      |(go_at_call 143;(with_reducible refine(N1.out _).mono ?_);rintro e w6 ⟨rfl,hw⟩;replace hw:=hw.symm;subst hw)
      |(go_at_call 178;(with_reducible refine(LD.out _).mono ?_);rintro e w6 ⟨rfl,hw⟩;replace hw:=hw.symm;subst hw)
      |(go_at_call 179;(with_reducible refine(CS.out _).mono ?_);rintro e w6 ⟨rfl,hw⟩;replace hw:=hw.symm;subst hw))
     go_ret2
     exact⟨by rw[HR2.out];rfl,K1.out.trans' K5.out⟩
    |true=>
     have HR2:=qh (show R=9223372036854775808+PK by rw[HR.out];simp);clear HR;go_enter func142,ntmps142
     go_upto_region 1 with fail
     obtain⟨b,w1,hw,hb,B0,K1,HB⟩:=qa4 w (LC0 true sx x) 24;rw[←hw,←hb];clear hw hb;obtain⟨c0,c1,c2⟩:=B0.out.c3
     go_wp2_with (first
      |(go_at_call 19;(with_reducible refine(CK.out _).mono ?_);rintro e w3 ⟨rfl,hk3⟩;have K3:=qh hk3;obtain⟨c0,c1,c2⟩:=(B0.out.kept K3.out).c3)
      |(go_at_call 108;(with_reducible refine(TP.out _).mono ?_);rintro e w4 ⟨rfl,hk4⟩;have K4:=qh (K3.out.trans' hk4);obtain⟨c0,c1,c2⟩:=(B0.out.kept K4.out).c3)
      |(go_at_call 177;(with_reducible refine(CT.out _).mono ?_);rintro e w5 ⟨rfl,hk5⟩;have K5:=qh (K4.out.trans' hk5);obtain⟨c0,c1,c2⟩:=(B0.out.kept K5.out).c3)
      |(go_at_call 143;(with_reducible refine(N1.out _).mono ?_);rintro e w6 ⟨rfl,hw⟩;replace hw:=hw.symm;subst hw)
      |(go_at_call 178;(with_reducible refine(LD.out _).mono ?_);rintro e w6 ⟨rfl,hw⟩;replace hw:=hw.symm;subst hw)
      |(go_at_call 179;(with_reducible refine(CS.out _).mono ?_);rintro e w6 ⟨rfl,hw⟩;replace hw:=hw.symm;subst hw))
     go_ret2
     exact⟨by rw[HR2.out];rfl,K1.out.trans' K5.out⟩
   ·have CT:=qh (fun W=>CTR.out W hx)
    obtain⟨o,ho⟩: ∃o,o=(q-d.e).toNat:=⟨_,rfl⟩
    have ho1:1≤o:=by omega
    rw[←ho]at CT;have hkk:qa8 d.num.natAbs d.e q=qfR d.num.natAbs o:=by unfold qa8;rw[if_neg hx,←ho]
    rw[hkk]at HRP hk53 hkg;rw[qnH ho1]at HRP hk53 hkg;have N1:=qh (qgi (agS d.num.natAbs o) (decide (d.num.natAbs / 2 ^ o % 2=1)));generalize agS d.num.natAbs o=ag at *;obtain⟨M,hM⟩: ∃M,M=d.num.natAbs / 2 ^ o:=⟨_,rfl⟩
    rw[←hM]at CT HRP hk53 hkg N1;have hMl:M≤9007199254740992:=Nat.le_trans (Nat.le_add_right _ _) hk53;have b2:=qoQ (m:=M) (by omega)
    have b3:((((M % 2:Nat):Int))==1)=decide (M % 2=1):=by
     rw[Bool.eq_iff_iff,beq_iff_eq,decide_eq_true_eq];omega
    have b4:((M:Int) % 2==1)=decide (M % 2=1):=by
     rw[Bool.eq_iff_iff,beq_iff_eq,decide_eq_true_eq];omega
    generalize decide (M % 2=1)=odd at *;obtain⟨on,hon⟩: ∃on,on=(decide (0<ag)||(decide (ag=0)&&odd)):=⟨_,rfl⟩
    rw[←hon]at HRP hk53 hkg N1;obtain⟨M9,hM9⟩: ∃M9,M9=M+(if on=true then 1 else 0):=⟨_,rfl⟩
    rw[←hM9]at HRP hk53 hkg;have LD:=qh (fun W=>qer M9 q W hk53 q0 q1 hkg);have CS:=qh (qdZ (qaJ M9 q) (qj0 M9 q));have hF:floatOfInt .f64 (M9:Int)=Ieee.double.nearest false M9 0:=qeO M9;generalize Ieee.double.nearest false M9 0=X at *;generalize qaJ M9 q=PK at *;replace HR:=HRP;generalize qaU d=R at *;obtain⟨neg,sx,x⟩:=d;simp only at CK TP CT HR⊢;clear LDX HRP CTE CTR h0 hp hxe hpp hT hd ht hq hql hM hkg hx b1 ho ho1 hkk hon;cases on with
    |true=>
     have hF2:floatOfInt .f64 ((M:Int)+1)=X:=by rw[←hF,hM9];rfl
     clear hM9 hF hk53;cases neg with
     |false=>
      have HR2:=qh (show R=PK by rw[HR.out];simp);clear HR;go_enter func142,ntmps142
      go_upto_region 1 with fail
      obtain⟨b,w1,hw,hb,B0,K1,HB⟩:=qa4 w (LC0 false sx x) 24;rw[←hw,←hb];clear hw hb;obtain⟨c0,c1,c2⟩:=B0.out.c3
      go_wp2_with (first
       |(go_at_call 19;(with_reducible refine(CK.out _).mono ?_);rintro e w3 ⟨rfl,hk3⟩;have K3:=qh hk3;obtain⟨c0,c1,c2⟩:=(B0.out.kept K3.out).c3)
       |(go_at_call 108;(with_reducible refine(TP.out _).mono ?_);rintro e w4 ⟨rfl,hk4⟩;have K4:=qh (K3.out.trans' hk4);obtain⟨c0,c1,c2⟩:=(B0.out.kept K4.out).c3)
       |(go_at_call 177;(with_reducible refine(CT.out _).mono ?_);rintro e w5 ⟨rfl,hk5⟩;have K5:=qh (K4.out.trans' hk5);obtain⟨c0,c1,c2⟩:=(B0.out.kept K5.out).c3)
       |(go_at_call 143;(with_reducible refine(N1.out _).mono ?_);rintro e w6 ⟨rfl,hw⟩;replace hw:=hw.symm;subst hw)
       |(go_at_call 178;(with_reducible refine(LD.out _).mono ?_);rintro e w6 ⟨rfl,hw⟩;replace hw:=hw.symm;subst hw)
       |(go_at_call 179;(with_reducible refine(CS.out _).mono ?_);rintro e w6 ⟨rfl,hw⟩;replace hw:=hw.symm;subst hw))
      go_ret2
      exact⟨by rw[HR2.out];rfl,K1.out.trans' K5.out⟩
     |true=>
      have HR2:=qh (show R=9223372036854775808+PK by rw[HR.out];simp);clear HR;go_enter func142,ntmps142
      go_upto_region 1 with fail
      obtain⟨b,w1,hw,hb,B0,K1,HB⟩:=qa4 w (LC0 true sx x) 24;rw[←hw,←hb];clear hw hb;obtain⟨c0,c1,c2⟩:=B0.out.c3
      go_wp2_with (first
       |(go_at_call 19;(with_reducible refine(CK.out _).mono ?_);rintro e w3 ⟨rfl,hk3⟩;have K3:=qh hk3;obtain⟨c0,c1,c2⟩:=(B0.out.kept K3.out).c3)
       |(go_at_call 108;(with_reducible refine(TP.out _).mono ?_);rintro e w4 ⟨rfl,hk4⟩;have K4:=qh (K3.out.trans' hk4);obtain⟨c0,c1,c2⟩:=(B0.out.kept K4.out).c3)
       |(go_at_call 177;(with_reducible refine(CT.out _).mono ?_);rintro e w5 ⟨rfl,hk5⟩;have K5:=qh (K4.out.trans' hk5);obtain⟨c0,c1,c2⟩:=(B0.out.kept K5.out).c3)
       |(go_at_call 143;(with_reducible refine(N1.out _).mono ?_);rintro e w6 ⟨rfl,hw⟩;replace hw:=hw.symm;subst hw)
       |(go_at_call 178;(with_reducible refine(LD.out _).mono ?_);rintro e w6 ⟨rfl,hw⟩;replace hw:=hw.symm;subst hw)
       |(go_at_call 179;(with_reducible refine(CS.out _).mono ?_);rintro e w6 ⟨rfl,hw⟩;replace hw:=hw.symm;subst hw))
      go_ret2
      exact⟨by rw[HR2.out];rfl,K1.out.trans' K5.out⟩
    |false=>
     have hF2:floatOfInt .f64 (M:Int)=X:=by rw[←hF,hM9];rfl
     clear hM9 hF hk53;cases neg with
     |false=>
      have HR2:=qh (show R=PK by rw[HR.out];simp);clear HR;go_enter func142,ntmps142
      go_upto_region 1 with fail
      obtain⟨b,w1,hw,hb,B0,K1,HB⟩:=qa4 w (LC0 false sx x) 24;rw[←hw,←hb];clear hw hb;obtain⟨c0,c1,c2⟩:=B0.out.c3
      go_wp2_with (first
       |(go_at_call 19;(with_reducible refine(CK.out _).mono ?_);rintro e w3 ⟨rfl,hk3⟩;have K3:=qh hk3;obtain⟨c0,c1,c2⟩:=(B0.out.kept K3.out).c3)
       |(go_at_call 108;(with_reducible refine(TP.out _).mono ?_);rintro e w4 ⟨rfl,hk4⟩;have K4:=qh (K3.out.trans' hk4);obtain⟨c0,c1,c2⟩:=(B0.out.kept K4.out).c3)
       |(go_at_call 177;(with_reducible refine(CT.out _).mono ?_);rintro e w5 ⟨rfl,hk5⟩;have K5:=qh (K4.out.trans' hk5);obtain⟨c0,c1,c2⟩:=(B0.out.kept K5.out).c3)
       |(go_at_call 143;(with_reducible refine(N1.out _).mono ?_);rintro e w6 ⟨rfl,hw⟩;replace hw:=hw.symm;subst hw)
       |(go_at_call 178;(with_reducible refine(LD.out _).mono ?_);rintro e w6 ⟨rfl,hw⟩;replace hw:=hw.symm;subst hw)
       |(go_at_call 179;(with_reducible refine(CS.out _).mono ?_);rintro e w6 ⟨rfl,hw⟩;replace hw:=hw.symm;subst hw))
      go_ret2
      exact⟨by rw[HR2.out];rfl,K1.out.trans' K5.out⟩
     |true=>
      have HR2:=qh (show R=9223372036854775808+PK by rw[HR.out];simp);clear HR;go_enter func142,ntmps142
      go_upto_region 1 with fail
      obtain⟨b,w1,hw,hb,B0,K1,HB⟩:=qa4 w (LC0 true sx x) 24;rw[←hw,←hb];clear hw hb;obtain⟨c0,c1,c2⟩:=B0.out.c3
      go_wp2_with (first
       |(go_at_call 19;(with_reducible refine(CK.out _).mono ?_);rintro e w3 ⟨rfl,hk3⟩;have K3:=qh hk3;obtain⟨c0,c1,c2⟩:=(B0.out.kept K3.out).c3)
       |(go_at_call 108;(with_reducible refine(TP.out _).mono ?_);rintro e w4 ⟨rfl,hk4⟩;have K4:=qh (K3.out.trans' hk4);obtain⟨c0,c1,c2⟩:=(B0.out.kept K4.out).c3)
       |(go_at_call 177;(with_reducible refine(CT.out _).mono ?_);rintro e w5 ⟨rfl,hk5⟩;have K5:=qh (K4.out.trans' hk5);obtain⟨c0,c1,c2⟩:=(B0.out.kept K5.out).c3)
       |(go_at_call 143;(with_reducible refine(N1.out _).mono ?_);rintro e w6 ⟨rfl,hw⟩;replace hw:=hw.symm;subst hw)
       |(go_at_call 178;(with_reducible refine(LD.out _).mono ?_);rintro e w6 ⟨rfl,hw⟩;replace hw:=hw.symm;subst hw)
       |(go_at_call 179;(with_reducible refine(CS.out _).mono ?_);rintro e w6 ⟨rfl,hw⟩;replace hw:=hw.symm;subst hw))
      go_ret2
      exact⟨by rw[HR2.out];rfl,K1.out.trans' K5.out⟩
theorem qhL (d:DyD) (w:World) (hd:qae d=true):
  Calls prog 100 #[.agg #[.bool d.neg,.string d.n,.int .i64 d.e]] w fun en w'=>en=.returned (.tuple #[.float .f64 (qaU d),.int .i64 0])∧Kept w w':=by
 have RD:=qh (fun W=>qkt d W hd);generalize qaU d=R at *;obtain⟨neg,sx,x⟩:=d;simp only at RD⊢;clear hd;go_enter func100,ntmps100
 go_upto_region 1 with fail
 obtain⟨b,w1,hw,hb,B0,K1,HB⟩:=qa4 w (LC0 neg sx x) 24;rw[←hw,←hb];clear hw hb;obtain⟨c0,c1,c2⟩:=B0.out.c3;go_wp2_with (go_at_call 142;(with_reducible refine(RD.out _).mono ?_);rintro e w3 ⟨rfl,hk3⟩)
 go_ret2
 exact⟨rfl,K1.out.trans' hk3⟩
end
section
set_option maxHeartbeats 1600000
set_option maxRecDepth 100000
attribute [local go_sem] run_float_arith qaM qaN qaw qaf qad
theorem qnl (x:GsD) (w:World) (hx:gsB x=true) (hT:T32 w):
  Calls prog 68 #[.agg #[.bool x.re.neg,.string x.re.n,.int .i64 x.re.e,.bool x.im.neg,.string x.im.n,.int .i64 x.im.e]] w fun en w'=>en=.returned (qai (qca x))∧Kept w w':=by
 have DOT:Hid (∀W,Kept w W→Calls prog 105 #[.agg #[.bool x.re.neg,.string x.re.n,.int .i64 x.re.e,.bool x.im.neg,.string x.im.n,.int .i64 x.im.e],.agg #[.bool x.re.neg,.string x.re.n,.int .i64 x.re.e,.bool x.im.neg,.string x.im.n,.int .i64 x.im.e]] W fun en w'=>en=.returned (qai (qca x))∧Kept W w'):=fun W h=>qon x x W hx hx (hT.kept h);generalize qca x=R at *;obtain⟨⟨a0,a1,a2⟩,⟨a3,a4,a5⟩⟩:=x;simp only at DOT⊢;clear hx hT;go_enter func68,ntmps68
 go_upto_region 1 with fail
 obtain⟨b,w1,hw,hb,B0,B1,K1,HB⟩:=qa6 w (LC1 a0 a1 a2 a3 a4 a5) 28 (LC0 false ⟨#[]⟩ 0) 24;rw[←hw,←hb];clear hw hb;obtain⟨c0,c1,c2,c3,c4,c5⟩:=B0.out.c6;go_wp2_with (go_at_call 105;(with_reducible refine(DOT.out _ K1.out).mono ?_);rintro e w3 ⟨rfl,hk3⟩;obtain⟨d0,d1,d2⟩:=(B1.out.kept hk3).c3;obtain⟨f0,f1,f2⟩:=(B1.out.kept hk3).f3)
 exact bodyPost_ret (v:=qai R) (by simp[results,results68,go_sem,d0,d1,d2,qai]) rfl ⟨rfl,(K1.out.trans' hk3).qaO (by have:=HB.out;omega) _ _ _⟩
def qbI (x y:Nat):GsD×Int:=if (qa3 x).2=0∧(qa3 y).2=0 then(⟨(qa3 x).1,(qa3 y).1⟩,0)else(zG,5)
theorem qiL (x y:Nat) (w:World) (hx:x<18446744073709551616) (hy:y<18446744073709551616) (hT:T32 w):
  Calls prog 66 #[.complex .f64 x y] w fun en w'=>en=.returned (qaF (qbI x y))∧Kept w w':=by
 have F1:Hid (∀W,Kept w W→Calls prog 101 #[.float .f64 x] W fun en w'=>en=.returned (qai (qa3 x))∧Kept W w'):=fun W h=>qfg x W hx (hT.kept h);have F2:Hid (∀W,Kept w W→Calls prog 101 #[.float .f64 y] W fun en w'=>en=.returned (qai (qa3 y))∧Kept W w'):=fun W h=>qfg y W hy (hT.kept h);unfold qbI;generalize qa3 x=R at *;generalize qa3 y=Q at *;obtain⟨⟨r0,r1,r2⟩,r3⟩:=R;obtain⟨⟨q0,q1,q2⟩,q3⟩:=Q;simp only at F1 F2⊢;clear hx hy hT
 have go: ∀(v:GsD×Int),v=(if r3=0∧q3=0 then((⟨⟨r0,r1,r2⟩,⟨q0,q1,q2⟩⟩,0):GsD×Int)else(zG,5))→Calls prog 66 #[.complex .f64 x y] w fun en w'=>en=.returned (qaF v)∧Kept w w':=by
  intro v hv;go_enter func66,ntmps66
  go_upto_region 1 with fail
  obtain⟨b,w1,hw,hb,B0,K1,HB⟩:=qa4 w ZL0 28;rw[←hw,←hb];clear hw hb;go_upto_region 2 with (go_at_call 101;(with_reducible refine(F1.out _ K1.out).mono ?_);rintro e w3 ⟨rfl,hk3⟩)
  have K4:=qh (Kept.new hk3 (.cells (LC0 r0 r1 r2).toArray 24));have B1:=qh (Bx.new w3 (LC0 r0 r1 r2) 24 w3.heap.size rfl);obtain⟨g,hg⟩: ∃g,g=w3.heap.size:=⟨_,rfl⟩
  rw[←hg]at B1⊢;clear hg hk3;generalize(w3.alloc (.cells (LC0 r0 r1 r2).toArray 24))=w4 at *;go_upto_region 3 with (go_at_call 101;(with_reducible refine(F2.out _ (K1.out.trans' K4.out)).mono ?_);rintro e w5 ⟨rfl,hk5⟩)
  have K6:=qh (Kept.new (K4.out.trans' hk5) (.cells (LC0 q0 q1 q2).toArray 24));have B2:=qh (Bx.new w5 (LC0 q0 q1 q2) 24 w5.heap.size rfl);have B3:=qh ((B1.out.kept hk5).kept (Kept.new (Below.refl _ _) (.cells (LC0 q0 q1 q2).toArray 24)));obtain⟨g2,hg2⟩: ∃g,g=w5.heap.size:=⟨_,rfl⟩
  rw[←hg2]at B2⊢;clear hg2 hk5 K4 B1 F1 F2;generalize(w5.alloc (.cells (LC0 q0 q1 q2).toArray 24))=w6 at *;obtain⟨c0,c1,c2⟩:=B3.out.c3;obtain⟨d0,d1,d2⟩:=B2.out.c3;obtain⟨e0,e1,e2,e3,e4,e5⟩:=(B0.out.kept K6.out).c6;obtain⟨f0,f1,f2,f3,f4,f5⟩:=(B0.out.kept K6.out).f6;have HV:=qh hv;clear hv;by_cases h1:r3=0
  ·by_cases h2:q3=0
   ·subst h1 h2
    go_wp2_with fail
    exact bodyPost_ret (v:=qaF (⟨⟨r0,r1,r2⟩,⟨q0,q1,q2⟩⟩,0)) (by simp[results,results66,go_sem,e0,e1,e2,e3,e4,e5,qaF]) rfl ⟨by rw[HV.out];rfl,(K1.out.trans' K6.out).qde HB.out _ _ _ _ _ _⟩
   ·subst h1
    go_wp2_with fail
    exact bodyPost_ret (v:=qaF (zG,5)) (by simp[results,results66,go_sem,e0,e1,e2,e3,e4,e5,qaF,zG,zD]) rfl ⟨by rw[HV.out,if_neg (fun h=>h2 h.2)],(K1.out.trans' K6.out).qde HB.out _ _ _ _ _ _⟩
  ·go_wp2_with fail
   exact bodyPost_ret (v:=qaF (zG,5)) (by simp[results,results66,go_sem,e0,e1,e2,e3,e4,e5,qaF,zG,zD]) rfl ⟨by rw[HV.out,if_neg (fun h=>h1 h.1)],(K1.out.trans' K6.out).qde HB.out _ _ _ _ _ _⟩
 exact go _ rfl
theorem qm1 (x:GsD) (w:World) (hx:gsB x=true):
  Calls prog 65 #[.agg #[.bool x.re.neg,.string x.re.n,.int .i64 x.re.e,.bool x.im.neg,.string x.im.n,.int .i64 x.im.e]] w fun en w'=>en=.returned (.tuple #[.complex .f64 (qaU x.re) (qaU x.im),.int .i64 0])∧Kept w w':=by
 have CK:=qh (qeN x hx);have N1:=qh (fun W=>qhL x.re W (qan.1 hx).1);have N2:=qh (fun W=>qhL x.im W (qan.1 hx).2);generalize qaU x.re=R at *;generalize qaU x.im=Q at *;obtain⟨⟨a0,a1,a2⟩,⟨a3,a4,a5⟩⟩:=x;simp only at CK N1 N2⊢;clear hx;go_enter func65,ntmps65
 go_upto_region 1 with fail
 obtain⟨b,w1,hw,hb,B0,K1,HB⟩:=qa4 w (LC1 a0 a1 a2 a3 a4 a5) 28;rw[←hw,←hb];clear hw hb;obtain⟨c0,c1,c2,c3,c4,c5⟩:=B0.out.c6
 go_wp2_with (first
  |(go_at_call 18;(with_reducible refine(CK.out _).mono ?_);rintro e w3 ⟨rfl,hk3⟩;have K3:=qh hk3;obtain⟨c0,c1,c2,c3,c4,c5⟩:=(B0.out.kept K3.out).c6)
  |(go_at_call 100;(with_reducible refine(N1.out _).mono ?_);rintro e w4 ⟨rfl,hk4⟩;have K4:=qh (K3.out.trans' hk4);obtain⟨c0,c1,c2,c3,c4,c5⟩:=(B0.out.kept K4.out).c6)
  |(go_at_call 100;(with_reducible refine(N2.out _).mono ?_);rintro e w5 ⟨rfl,hk5⟩;have K5:=qh (K4.out.trans' hk5)))
 go_ret2
 exact⟨rfl,K1.out.trans' K5.out⟩
end
def qp7 (k:Nat):Int:=2 ^ k
def sv (d:DyD):Int:=d.num*qp7 (d.e+1048576).toNat
def GsD.x (g:GsD):Int:=sv g.re
def GsD.y (g:GsD):Int:=sv g.im
theorem qho (a b:GsD):(qeB a b).2=0∨qeB a b=(zG,4):=qeY _ _
theorem qf9 {f:Nat→Bool}: ∀(k i j:Nat),i≤j→j-i<2 ^ k→f j=true→f (qaR f k i j)=true∧i≤qaR f k i j∧qaR f k i j≤j
 |0,i,j,h1,h2,h3=>by
  have:i=j:=by simp at h2;omega
  subst this;exact⟨h3,Nat.le_refl _,Nat.le_refl _⟩
 |k+1,i,j,h1,h2,h3=>by
  rw[Nat.pow_succ]at h2;unfold qaR;by_cases h:i<j
  ·rw [if_pos h]
   by_cases hf:f ((i+j) / 2)=true
   ·rw [if_pos hf]
    have:=qf9 k i ((i+j) / 2) (by omega) (by omega) hf;exact⟨this.1,this.2.1,by omega⟩
   ·rw [if_neg hf]
    have:=qf9 k ((i+j) / 2+1) j (by omega) (by omega) h3;exact⟨this.1,by omega,this.2.2⟩
  ·rw [if_neg h]
   have:i=j:=by omega
   subst this;exact⟨h3,Nat.le_refl _,Nat.le_refl _⟩
theorem qpq {b:Nat} (h:b≤qbF):qb6 b=true:=by
 unfold qb6 qaS;unfold qbF at h;rw[decide_eq_true_eq];omega
def qeG (a b:GsD) (r:DyD):Int×Int:=if (qeB a b).2=0∧(qca (qeB a b).1).2=0∧(mulS r r).2=0 then(qdk (qca (qeB a b).1).1 (mulS r r).1,0)else(0,4)
def inS (g c:GsD) (r:DyD):Bool×Int:=(decide ((qeG g c r).2=0)&&decide ((qeG g c r).1≤0),(qeG g c r).2)
def qe5 (c:GsD) (r:DyD) (d:GsD) (s:DyD):Bool×Int:=if 0<qdk r s then(false,0)else if (qdI s r).2=0 then inS c d (qdI s r).1 else(false,4)
def qgc (c:GsD) (r:DyD) (d:GsD) (s:DyD):Bool×Int:=if (qaE r s).2=0 then(decide ((qeG c d (qaE r s).1).2=0)&&decide (0<(qeG c d (qaE r s).1).1),(qeG c d (qaE r s).1).2)else(false,4)
section
set_option maxHeartbeats 3200000
set_option maxRecDepth 100000
theorem qmA (p q:DyD) (w:World) (hp:p.ok) (hq:q.ok):
  Calls prog 62 #[.agg #[.bool p.neg,.string p.n,.int .i64 p.e,.bool q.neg,.string q.n,.int .i64 q.e]] w fun e w'=>e=.returned (.bool (qae p&&qae q))∧Kept w w':=by
 have CP:=qh (fun(W:World)=>qeb p W hp);have CQ:=qh (fun(W:World)=>qeb q W hq);generalize qae p=bp at *;generalize qae q=bq at *;obtain⟨p0,p1,p2⟩:=p;obtain⟨q0,q1,q2⟩:=q;simp only at CP CQ⊢;clear hp hq;cases bp with
 |false=>
  go_enter func62,ntmps62
  go_upto_region 1 with fail
  obtain⟨b,w1,hw,hb,B0,K1,HB⟩:=qa4 w (LC1 p0 p1 p2 q0 q1 q2) 28;rw[←hw,←hb];clear hw hb;obtain⟨c0,c1,c2,c3,c4,c5⟩:=B0.out.c6;go_wp2_with (go_at_call 73;(with_reducible refine(CP.out _).mono ?_);rintro e w2 ⟨rfl,hk2⟩)
  go_ret
  exact⟨rfl,K1.out.trans' hk2⟩
 |true=>
  go_enter func62,ntmps62
  go_upto_region 1 with fail
  obtain⟨b,w1,hw,hb,B0,K1,HB⟩:=qa4 w (LC1 p0 p1 p2 q0 q1 q2) 28;rw[←hw,←hb];clear hw hb;obtain⟨c0,c1,c2,c3,c4,c5⟩:=B0.out.c6;go_wp2_with fail
  (with_reducible refine(CP.out _).mono ?_)
  rintro e w2 ⟨rfl,hk2⟩;obtain⟨c0,c1,c2,c3,c4,c5⟩:=(B0.out.kept hk2).c6;have K2:=qh hk2;clear hk2 CP;go_wp2_with fail
  (with_reducible refine(CQ.out _).mono ?_)
  rintro e w3 ⟨rfl,hk3⟩;go_wp2_with fail
  go_ret
  exact⟨by simp,(K1.out.trans' K2.out).trans' hk3⟩
theorem qfs (x y:Nat) (w:World) (hx:x<18446744073709551616) (hy:y<18446744073709551616):
  Calls prog 78 #[.complex .f64 x y] w fun en w'=>en=.returned (qaF (qbI x y))∧Kept w w':=by
 have F1:Hid (∀W,Calls prog 118 #[.float .f64 x] W fun en w'=>en=.returned (qai (qa3 x))∧Kept W w'):=fun W=>qep x W hx;have F2:Hid (∀W,Calls prog 118 #[.float .f64 y] W fun en w'=>en=.returned (qai (qa3 y))∧Kept W w'):=fun W=>qep y W hy;unfold qbI;generalize qa3 x=R at *;generalize qa3 y=Q at *;obtain⟨⟨r0,r1,r2⟩,r3⟩:=R;obtain⟨⟨q0,q1,q2⟩,q3⟩:=Q;simp only at F1 F2⊢;clear hx hy;obtain⟨v,hv⟩: ∃v:GsD×Int,v=(if r3=0∧q3=0 then((⟨⟨r0,r1,r2⟩,⟨q0,q1,q2⟩⟩,0):GsD×Int)else(zG,5)):=⟨_,rfl⟩
 rw[←hv];have HV:=qh hv;clear hv;go_enter func78,ntmps78
 go_upto_region 1 with fail
 obtain⟨b,w1,hw,hb,B0,K1,HB⟩:=qa4 w ZL0 28;rw[←hw,←hb];clear hw hb;go_upto_region 2 with (go_at_call 118;(with_reducible refine(F1.out _).mono ?_);rintro e w3 ⟨rfl,hk3⟩)
 have K4:=qh (Kept.new hk3 (.cells (LC0 r0 r1 r2).toArray 24));have B1:=qh (Bx.new w3 (LC0 r0 r1 r2) 24 w3.heap.size rfl);obtain⟨g,hg⟩: ∃g,g=w3.heap.size:=⟨_,rfl⟩
 rw[←hg]at B1⊢;clear hg hk3;generalize(w3.alloc (.cells (LC0 r0 r1 r2).toArray 24))=w4 at *;go_upto_region 3 with (go_at_call 118;(with_reducible refine(F2.out _).mono ?_);rintro e w5 ⟨rfl,hk5⟩)
 have K6:=qh (Kept.new (K4.out.trans' hk5) (.cells (LC0 q0 q1 q2).toArray 24));have B2:=qh (Bx.new w5 (LC0 q0 q1 q2) 24 w5.heap.size rfl);replace B1:=qh ((B1.out.kept hk5).kept (Kept.new (Below.refl _ _) (.cells (LC0 q0 q1 q2).toArray 24)));obtain⟨g2,hg⟩: ∃g,g=w5.heap.size:=⟨_,rfl⟩
 rw[←hg]at B2⊢;clear hg hk5;generalize(w5.alloc (.cells (LC0 q0 q1 q2).toArray 24))=w6 at *;clear F1 F2;obtain⟨c0,c1,c2⟩:=B1.out.c3;obtain⟨d0,d1,d2⟩:=B2.out.c3;obtain⟨e0,e1,e2,e3,e4,e5⟩:=(B0.out.kept K6.out).c6;obtain⟨f0,f1,f2,f3,f4,f5⟩:=(B0.out.kept K6.out).f6;by_cases h1:r3=0
 ·by_cases h2:q3=0
  ·subst h1 h2
   go_wp2_with fail
   exact bodyPost_ret (v:=qaF (⟨⟨r0,r1,r2⟩,⟨q0,q1,q2⟩⟩,0)) (by simp[results,results78,go_sem,e0,e1,e2,e3,e4,e5,qaF]) rfl ⟨by rw[HV.out];rfl,(K1.out.trans' K6.out).qde HB.out _ _ _ _ _ _⟩
  ·subst h1
   go_wp2_with fail
   exact bodyPost_ret (v:=qaF (zG,5)) (by simp[results,results78,go_sem,e0,e1,e2,e3,e4,e5,qaF,zG,zD]) rfl ⟨by rw[HV.out,if_neg (fun h=>h2 h.2)],(K1.out.trans' K6.out).qde HB.out _ _ _ _ _ _⟩
 ·go_wp2_with fail
  exact bodyPost_ret (v:=qaF (zG,5)) (by simp[results,results78,go_sem,e0,e1,e2,e3,e4,e5,qaF,zG,zD]) rfl ⟨by rw[HV.out,if_neg (fun h=>h1 h.1)],(K1.out.trans' K6.out).qde HB.out _ _ _ _ _ _⟩
theorem qkw (x:GsD) (w:World) (hx:gsB x=true):
  Calls prog 77 #[.agg #[.bool x.re.neg,.string x.re.n,.int .i64 x.re.e,.bool x.im.neg,.string x.im.n,.int .i64 x.im.e]] w fun en w'=>en=.returned (.complex .f64 (qaU x.re) (qaU x.im))∧Kept w w':=by
 have N1:=qh (fun W=>qf7 x.re W (qan.1 hx).1);have N2:=qh (fun W=>qf7 x.im W (qan.1 hx).2);generalize qaU x.re=R at *;generalize qaU x.im=Q at *;obtain⟨⟨a0,a1,a2⟩,⟨a3,a4,a5⟩⟩:=x;simp only at N1 N2⊢;clear hx;go_enter func77,ntmps77
 go_upto_region 1 with fail
 obtain⟨b,w1,hw,hb,B0,K1,HB⟩:=qa4 w (LC1 a0 a1 a2 a3 a4 a5) 28;rw[←hw,←hb];clear hw hb;obtain⟨c0,c1,c2,c3,c4,c5⟩:=B0.out.c6;have SK:Hid (∀W,Kept w1 W→W.cell? ⟨b,0,none⟩=some (.bool a0)∧W.cell? ⟨b,1,none⟩=some (.string a1)∧W.cell? ⟨b,2,none⟩=some (.int .i64 a2)∧W.cell? ⟨b,3,none⟩=some (.bool a3)∧W.cell? ⟨b,4,none⟩=some (.string a4)∧W.cell? ⟨b,5,none⟩=some (.int .i64 a5)):=fun W h=>(B0.out.kept h).c6;have hS0:=SK.out _ (Below.refl _ w1).drew;refine qac (fun W=>W.cell? ⟨b,0,none⟩=some (.bool a0)∧W.cell? ⟨b,1,none⟩=some (.string a1)∧W.cell? ⟨b,2,none⟩=some (.int .i64 a2)∧W.cell? ⟨b,3,none⟩=some (.bool a3)∧W.cell? ⟨b,4,none⟩=some (.string a4)∧W.cell? ⟨b,5,none⟩=some (.int .i64 a5)) [7] (by kernel_rfl) ?_ (fun hHeld=>?_)
 ·assumption
 refine wS 0 3 ?_;refine wS 1 4 ?_;refine wS 3 6 ?_;refine wS 4 7 ?_;refine oS 2 fun K hK=>?_;go_simp;(refine(N1.out _).mono ?_;rintro e w3 ⟨rfl,hk3⟩;have K3:=qh (show Kept w1 w3 from(Below.refl _ w1).drew.trans (hk3.mono (Nat.le_refl _)));have hS3:=SK.out _ K3.out;clear hk3)
 refine hK.out _ _ ?_ (fun hHeld=>?_)
 ·assumption
 clear hK K;try simp only[Act.put,tdy]
 refine oS 5 fun K hK=>?_;go_simp;(refine(N2.out _).mono ?_;rintro e w4 ⟨rfl,hk4⟩;have K4:=qh (K3.out.trans' hk4);have hS4:=SK.out _ K4.out;clear hk4)
 refine hK.out _ _ ?_ (fun hHeld=>?_)
 ·assumption
 clear hK K;try simp only[Act.put,tdy]
 refine wS 6 9 ?_;refine eS 7 fun K hK=>?_;go_simp;refine hK.out _ _ ?_;clear hK K;try simp only[Act.put,tdy]
 refine dS ?_ _;go_wp2_with fail
 go_ret
 exact⟨rfl,K1.out.trans' K4.out⟩
theorem qmD (x:GsD) (w:World) (hx:gsB x=true):
  Calls prog 120 #[.agg #[.bool x.re.neg,.string x.re.n,.int .i64 x.re.e,.bool x.im.neg,.string x.im.n,.int .i64 x.im.e]] w fun en w'=>en=.returned (.agg #[.bool (negS x.re).neg,.string (negS x.re).n,.int .i64 (negS x.re).e,.bool (negS x.im).neg,.string (negS x.im).n,.int .i64 (negS x.im).e])∧Kept w w':=by
 have N1:=qh (fun W=>qhb x.re W (qan.1 hx).1);have N2:=qh (fun W=>qhb x.im W (qan.1 hx).2);generalize negS x.re=R at *;generalize negS x.im=Q at *;obtain⟨⟨a0,a1,a2⟩,⟨a3,a4,a5⟩⟩:=x;obtain⟨r0,r1,r2⟩:=R;obtain⟨q0,q1,q2⟩:=Q;simp only at N1 N2⊢;clear hx;go_enter func120,ntmps120
 go_upto_region 1 with fail
 obtain⟨b,w1,hw,hb,B0,B1,K1,HB⟩:=qa6 w (LC1 a0 a1 a2 a3 a4 a5) 28 ZL0 28;rw[←hw,←hb];clear hw hb;obtain⟨c0,c1,c2,c3,c4,c5⟩:=B0.out.c6;have SK:Hid (∀W,Kept w1 W→W.cell? ⟨b,0,none⟩=some (.bool a0)∧W.cell? ⟨b,1,none⟩=some (.string a1)∧W.cell? ⟨b,2,none⟩=some (.int .i64 a2)∧W.cell? ⟨b,3,none⟩=some (.bool a3)∧W.cell? ⟨b,4,none⟩=some (.string a4)∧W.cell? ⟨b,5,none⟩=some (.int .i64 a5)):=fun W h=>(B0.out.kept h).c6;have hS0:=SK.out _ (Below.refl _ w1).drew;refine qac (fun W=>W.cell? ⟨b,0,none⟩=some (.bool a0)∧W.cell? ⟨b,1,none⟩=some (.string a1)∧W.cell? ⟨b,2,none⟩=some (.int .i64 a2)∧W.cell? ⟨b,3,none⟩=some (.bool a3)∧W.cell? ⟨b,4,none⟩=some (.string a4)∧W.cell? ⟨b,5,none⟩=some (.int .i64 a5)) [7] (by kernel_rfl) ?_ (fun hHeld=>?_)
 ·assumption
 refine wS 0 3 ?_;refine wS 1 4 ?_;refine wS 3 6 ?_;refine wS 4 7 ?_;refine oS 2 fun K hK=>?_;go_simp;(refine(N1.out _).mono ?_;rintro e w3 ⟨rfl,hk3⟩;have K3:=qh (show Kept w1 w3 from(Below.refl _ w1).drew.trans (hk3.mono (Nat.le_refl _)));have hS3:=SK.out _ K3.out;clear hk3)
 refine hK.out _ _ ?_ (fun hHeld=>?_)
 ·assumption
 clear hK K;try simp only[Act.put,tdy]
 refine oS 5 fun K hK=>?_;go_simp;(refine(N2.out _).mono ?_;rintro e w4 ⟨rfl,hk4⟩;have K4:=qh (K3.out.trans' hk4);have hS4:=SK.out _ K4.out;clear hk4)
 refine hK.out _ _ ?_ (fun hHeld=>?_)
 ·assumption
 clear hK K;try simp only[Act.put,tdy]
 refine wS 6 9 ?_;obtain⟨e0,e1,e2,e3,e4,e5⟩:=(B1.out.kept K4.out).c6;obtain⟨f0,f1,f2,f3,f4,f5⟩:=(B1.out.kept K4.out).f6;refine eS 7 fun K hK=>?_;go_simp;refine hK.out _ _ ?_;clear hK K;try simp only[Act.put,tdy]
 refine dS ?_ _;go_wp2_with fail
 exact bodyPost_ret (v:=.agg #[.bool r0,.string r1,.int .i64 r2,.bool q0,.string q1,.int .i64 q2]) (by simp[results,results120,go_sem,e0,e1,e2,e3,e4,e5]) rfl ⟨rfl,(K1.out.trans' K4.out).qde (by have:=HB.out;omega) _ _ _ _ _ _⟩
theorem qmL (R Q:DyD×Int) (w:World):
  Calls prog 158 #[.agg #[.bool R.1.neg,.string R.1.n,.int .i64 R.1.e],.int .i64 R.2,.agg #[.bool Q.1.neg,.string Q.1.n,.int .i64 Q.1.e],.int .i64 Q.2] w fun en w'=>en=.returned (qaF (qaG R Q))∧Kept w w':=by
 obtain⟨v,hv⟩: ∃v:GsD×Int,v=qaG R Q:=⟨_,rfl⟩
 rw[←hv];have HV:=qh hv;clear hv;obtain⟨⟨r0,r1,r2⟩,r3⟩:=R;obtain⟨⟨q0,q1,q2⟩,q3⟩:=Q;dsimp only;go_enter func158,ntmps158
 go_upto_region 1 with fail
 obtain⟨b,w1,hw,hb,B0,B1,B2,K1,HB⟩:=qcj w (LC0 r0 r1 r2) 24 (LC0 q0 q1 q2) 24 ZL0 28;rw[←hw,←hb];clear hw hb;obtain⟨c0,c1,c2⟩:=B0.out.c3;obtain⟨d0,d1,d2⟩:=B1.out.c3;obtain⟨e0,e1,e2,e3,e4,e5⟩:=B2.out.c6;obtain⟨f0,f1,f2,f3,f4,f5⟩:=B2.out.f6;by_cases h1:r3=0
 ·by_cases h2:q3=0
  ·subst h1 h2
   go_wp2_with fail
   exact bodyPost_ret (v:=qaF (⟨⟨r0,r1,r2⟩,⟨q0,q1,q2⟩⟩,0)) (by simp[results,results158,go_sem,e0,e1,e2,e3,e4,e5,qaF]) rfl ⟨by rw[HV.out];rfl,K1.out.qde (by have:=HB.out;omega) _ _ _ _ _ _⟩
  ·subst h1
   have HQ:=qh h2;go_wp2_with fail
   exact bodyPost_ret (v:=qaF (zG,4)) (by simp[results,results158,go_sem,e0,e1,e2,e3,e4,e5,qaF,zG,zD]) rfl ⟨by rw[HV.out];unfold qaG;rw[if_neg (fun h=>HQ.out h.2)],K1.out.qde (by have:=HB.out;omega) _ _ _ _ _ _⟩
 ·have HR:=qh h1
  go_wp2_with fail
  exact bodyPost_ret (v:=qaF (zG,4)) (by simp[results,results158,go_sem,e0,e1,e2,e3,e4,e5,qaF,zG,zD]) rfl ⟨by rw[HV.out];unfold qaG;rw[if_neg (fun h=>HR.out h.1)],K1.out.qde (by have:=HB.out;omega) _ _ _ _ _ _⟩
end
section
set_option maxHeartbeats 3200000
set_option maxRecDepth 100000
theorem ql6 (x y:GsD) (w:World) (hx:gsB x=true) (hy:gsB y=true):
  Calls prog 119 #[.agg #[.bool x.re.neg,.string x.re.n,.int .i64 x.re.e,.bool x.im.neg,.string x.im.n,.int .i64 x.im.e],.agg #[.bool y.re.neg,.string y.re.n,.int .i64 y.re.e,.bool y.im.neg,.string y.im.n,.int .i64 y.im.e]] w fun en w'=>en=.returned (qaF (qaG (qaE x.re y.re) (qaE x.im y.im)))∧Kept w w':=by
 have A1:=qh (fun W=>qdx x.re y.re W (qan.1 hx).1 (qan.1 hy).1);have A2:=qh (fun W=>qdx x.im y.im W (qan.1 hx).2 (qan.1 hy).2);generalize qaE x.re y.re=R at *;generalize qaE x.im y.im=Q at *;have BO:=qh (fun W=>qmL R Q W);generalize qaG R Q=V at *;obtain⟨⟨x0,x1,x2⟩,⟨x3,x4,x5⟩⟩:=x;obtain⟨⟨y0,y1,y2⟩,⟨y3,y4,y5⟩⟩:=y;obtain⟨⟨r0,r1,r2⟩,r3⟩:=R;obtain⟨⟨q0,q1,q2⟩,q3⟩:=Q;simp only at A1 A2 BO⊢;clear hx hy;go_enter func119,ntmps119
 go_upto_region 1 with fail
 obtain⟨b,w1,hw,hb,B0,B1,B2,K1,HB⟩:=qcj w (LC1 x0 x1 x2 x3 x4 x5) 28 (LC1 y0 y1 y2 y3 y4 y5) 28 ZL0 28;rw[←hw,←hb];clear hw hb;obtain⟨c0,c1,c2,c3,c4,c5⟩:=B0.out.c6;obtain⟨d0,d1,d2,d3,d4,d5⟩:=B1.out.c6;go_upto_region 2 with (go_at_call 91;(with_reducible refine(A1.out _).mono ?_);rintro e w3 ⟨rfl,hk3⟩)
 have K4:=qh (Kept.new hk3 (.cells (LC0 r0 r1 r2).toArray 24));have B3:=qh (Bx.new w3 (LC0 r0 r1 r2) 24 w3.heap.size rfl);obtain⟨g,hg⟩: ∃g,g=w3.heap.size:=⟨_,rfl⟩
 rw[←hg]at B3⊢;clear hg hk3;generalize(w3.alloc (.cells (LC0 r0 r1 r2).toArray 24))=w4 at *;clear c0 c1 c2 c3 c4 c5 d0 d1 d2 d3 d4 d5;obtain⟨c0,c1,c2,c3,c4,c5⟩:=(B0.out.kept K4.out).c6;obtain⟨d0,d1,d2,d3,d4,d5⟩:=(B1.out.kept K4.out).c6;go_upto_region 3 with (go_at_call 91;(with_reducible refine(A2.out _).mono ?_);rintro e w5 ⟨rfl,hk5⟩)
 have K6:=qh (Kept.new (K4.out.trans' hk5) (.cells (LC0 q0 q1 q2).toArray 24));have B4:=qh (Bx.new w5 (LC0 q0 q1 q2) 24 w5.heap.size rfl);replace B3:=qh ((B3.out.kept hk5).kept (Kept.new (Below.refl _ _) (.cells (LC0 q0 q1 q2).toArray 24)));obtain⟨g2,hg⟩: ∃g,g=w5.heap.size:=⟨_,rfl⟩
 rw[←hg]at B4⊢;clear hg hk5;generalize(w5.alloc (.cells (LC0 q0 q1 q2).toArray 24))=w6 at *;clear c0 c1 c2 c3 c4 c5 d0 d1 d2 d3 d4 d5 A1 A2;obtain⟨c0,c1,c2⟩:=B3.out.c3;obtain⟨d0,d1,d2⟩:=B4.out.c3;go_wp2_with (go_at_call 158;(with_reducible refine(BO.out _).mono ?_);rintro e w7 ⟨rfl,hk7⟩;have K7:=qh (K6.out.trans' hk7);obtain⟨e0,e1,e2,e3,e4,e5⟩:=(B2.out.kept K7.out).c6;obtain⟨f0,f1,f2,f3,f4,f5⟩:=(B2.out.kept K7.out).f6)
 exact bodyPost_ret (v:=qaF V) (by simp[results,results119,go_sem,e0,e1,e2,e3,e4,e5,qaF]) rfl ⟨rfl,(K1.out.trans' K7.out).qde (by have:=HB.out;omega) _ _ _ _ _ _⟩
theorem qh9 (x y:GsD) (w:World) (hx:gsB x=true) (hy:gsB y=true):
  Calls prog 79 #[.agg #[.bool x.re.neg,.string x.re.n,.int .i64 x.re.e,.bool x.im.neg,.string x.im.n,.int .i64 x.im.e],.agg #[.bool y.re.neg,.string y.re.n,.int .i64 y.re.e,.bool y.im.neg,.string y.im.n,.int .i64 y.im.e]] w fun en w'=>en=.returned (qaF (qeB x y))∧Kept w w':=by
 have NEG:=qh (fun W=>qmD y W hy);have ADD:=qh (fun W=>ql6 x ⟨negS y.re,negS y.im⟩ W hx (qan.2 ⟨qfS (qan.1 hy).1,qfS (qan.1 hy).2⟩));unfold qeB qdI;simp only at ADD;generalize negS y.re=P at *;generalize negS y.im=Q at *;generalize qaG (qaE x.re P) (qaE x.im Q)=V at *;obtain⟨⟨x0,x1,x2⟩,⟨x3,x4,x5⟩⟩:=x;obtain⟨⟨y0,y1,y2⟩,⟨y3,y4,y5⟩⟩:=y;simp only at NEG ADD⊢;clear hx hy;go_enter func79,ntmps79
 go_upto_region 1 with fail
 obtain⟨b,w1,hw,hb,B0,B1,B2,K1,HB⟩:=qcj w (LC1 x0 x1 x2 x3 x4 x5) 28 (LC1 y0 y1 y2 y3 y4 y5) 28 ZL0 28;rw[←hw,←hb];clear hw hb;obtain⟨c0,c1,c2,c3,c4,c5⟩:=B0.out.c6;obtain⟨d0,d1,d2,d3,d4,d5⟩:=B1.out.c6;have SK:Hid (∀W,Kept w1 W→(W.cell? ⟨b,0,none⟩=some (.bool x0)∧W.cell? ⟨b,1,none⟩=some (.string x1)∧W.cell? ⟨b,2,none⟩=some (.int .i64 x2)∧W.cell? ⟨b,3,none⟩=some (.bool x3)∧W.cell? ⟨b,4,none⟩=some (.string x4)∧W.cell? ⟨b,5,none⟩=some (.int .i64 x5))∧W.cell? ⟨b+1,0,none⟩=some (.bool y0)∧W.cell? ⟨b+1,1,none⟩=some (.string y1)∧W.cell? ⟨b+1,2,none⟩=some (.int .i64 y2)∧W.cell? ⟨b+1,3,none⟩=some (.bool y3)∧W.cell? ⟨b+1,4,none⟩=some (.string y4)∧W.cell? ⟨b+1,5,none⟩=some (.int .i64 y5)):=fun W h=>⟨(B0.out.kept h).c6,(B1.out.kept h).c6⟩
 have hS0:=SK.out _ (Below.refl _ w1).drew;refine qac (fun W=>(W.cell? ⟨b,0,none⟩=some (.bool x0)∧W.cell? ⟨b,1,none⟩=some (.string x1)∧W.cell? ⟨b,2,none⟩=some (.int .i64 x2)∧W.cell? ⟨b,3,none⟩=some (.bool x3)∧W.cell? ⟨b,4,none⟩=some (.string x4)∧W.cell? ⟨b,5,none⟩=some (.int .i64 x5))∧W.cell? ⟨b+1,0,none⟩=some (.bool y0)∧W.cell? ⟨b+1,1,none⟩=some (.string y1)∧W.cell? ⟨b+1,2,none⟩=some (.int .i64 y2)∧W.cell? ⟨b+1,3,none⟩=some (.bool y3)∧W.cell? ⟨b+1,4,none⟩=some (.string y4)∧W.cell? ⟨b+1,5,none⟩=some (.int .i64 y5)) [6,7] (by kernel_rfl) ?_ (fun hHeld=>?_)
 ·assumption
 refine wS 0 6 ?_;refine wS 1 7 ?_;refine oS 2 fun K hK=>?_;go_simp;(refine(NEG.out _).mono ?_;rintro e w4 ⟨rfl,hk4⟩;have K4:=qh (show Kept w1 w4 from(Below.refl _ w1).drew.trans (hk4.mono (Nat.le_refl _)));have hS4:=SK.out _ K4.out)
 refine hK.out _ _ ?_ (fun hHeld=>?_)
 ·assumption
 clear hK K;try simp only[Act.put,tdy]
 refine oS 3 fun K hK=>?_;go_simp;(refine(ADD.out _).mono ?_;rintro e w5 ⟨rfl,hk5⟩;have K5:=qh (K4.out.trans' hk5);have hS5:=SK.out _ K5.out)
 refine hK.out _ _ ?_ (fun hHeld=>?_)
 ·assumption
 clear hK K;try simp only[Act.put,tdy]
 refine wS 4 10 ?_;refine wS 5 11 ?_;obtain⟨e0,e1,e2,e3,e4,e5⟩:=(B2.out.kept K5.out).c6;obtain⟨f0,f1,f2,f3,f4,f5⟩:=(B2.out.kept K5.out).f6;refine eS 6 fun K hK=>?_;go_simp;refine hK.out _ _ ?_;clear hK K;try simp only[Act.put,tdy]
 refine eS 7 fun K hK=>?_;go_simp;refine hK.out _ _ ?_;clear hK K;try simp only[Act.put,tdy]
 refine dS ?_ _;go_wp2_with fail
 exact bodyPost_ret (v:=qaF V) (by simp[results,results79,go_sem,e0,e1,e2,e3,e4,e5,qaF]) rfl ⟨rfl,(K1.out.trans' K5.out).qde (by have:=HB.out;omega) _ _ _ _ _ _⟩
theorem qob (p q r s:DyD) (w:World) (hp:qae p=true) (hq:qae q=true) (hr:qae r=true) (hs:qae s=true):
  Calls prog 121 #[.agg #[.bool p.neg,.string p.n,.int .i64 p.e],.agg #[.bool q.neg,.string q.n,.int .i64 q.e],.agg #[.bool r.neg,.string r.n,.int .i64 r.e],.agg #[.bool s.neg,.string s.n,.int .i64 s.e],.bool false] w fun en w'=>en=.returned (qai (twoS (mulS p q) (mulS r s)))∧Kept w w':=by
 have M1:=qh (fun W=>qfV p q W hp hq);have M2:=qh (fun W=>qfV r s W hr hs);have h1:=qdf p q;have h2:=qdf r s;generalize mulS p q=R at *;generalize mulS r s=Q at *;have ADD:=qh (fun W=>qdx R.1 Q.1 W h1 h2);have HG:=qh (show R.2=0→Q.2=0→qaE R.1 Q.1=twoS R Q from fun a b=>by unfold twoS;rw[if_pos ⟨a,b⟩]);have HN:=qh (show¬(R.2=0∧Q.2=0)→twoS R Q=(zD,4)from fun a=>by unfold twoS;rw[if_neg a]);generalize qaE R.1 Q.1=V at *;generalize twoS R Q=V2 at *;obtain⟨p0,p1,p2⟩:=p;obtain⟨q0,q1,q2⟩:=q;obtain⟨r0,r1,r2⟩:=r;obtain⟨s0,s1,s2⟩:=s;obtain⟨⟨m0,m1,m2⟩,m3⟩:=R;obtain⟨⟨n0,n1,n2⟩,n3⟩:=Q;simp only at M1 M2 ADD HG HN⊢;clear hp hq hr hs h1 h2;go_enter func121,ntmps121
 go_upto_region 1 with fail
 obtain⟨b,w1,hw,hb,B0,B1,B2,B3,B4,K1,HB⟩:=qpI w (LC0 p0 p1 p2) 24 (LC0 q0 q1 q2) 24 (LC0 r0 r1 r2) 24 (LC0 s0 s1 s2) 24 (LC0 false ⟨#[]⟩ 0) 24;rw[←hw,←hb];clear hw hb;obtain⟨c0,c1,c2⟩:=B0.out.c3;obtain⟨d0,d1,d2⟩:=B1.out.c3;go_upto_region 2 with (go_at_call 127;(with_reducible refine(M1.out _).mono ?_);rintro e w3 ⟨rfl,hk3⟩)
 have K4:=qh (Kept.new hk3 (.cells (LC0 m0 m1 m2).toArray 24));have B5:=qh (Bx.new w3 (LC0 m0 m1 m2) 24 w3.heap.size rfl);obtain⟨g,hg⟩: ∃g,g=w3.heap.size:=⟨_,rfl⟩
 rw[←hg]at B5⊢;clear hg hk3;generalize(w3.alloc (.cells (LC0 m0 m1 m2).toArray 24))=w4 at *;clear c0 c1 c2 d0 d1 d2;obtain⟨c0,c1,c2⟩:=(B2.out.kept K4.out).c3;obtain⟨d0,d1,d2⟩:=(B3.out.kept K4.out).c3;go_upto_region 3 with (go_at_call 127;(with_reducible refine(M2.out _).mono ?_);rintro e w5 ⟨rfl,hk5⟩)
 have K6:=qh (Kept.new (K4.out.trans' hk5) (.cells (LC0 n0 n1 n2).toArray 24));have B6:=qh (Bx.new w5 (LC0 n0 n1 n2) 24 w5.heap.size rfl);replace B5:=qh ((B5.out.kept hk5).kept (Kept.new (Below.refl _ _) (.cells (LC0 n0 n1 n2).toArray 24)));obtain⟨g2,hg⟩: ∃g,g=w5.heap.size:=⟨_,rfl⟩
 rw[←hg]at B6⊢;clear hg hk5;generalize(w5.alloc (.cells (LC0 n0 n1 n2).toArray 24))=w6 at *;clear c0 c1 c2 d0 d1 d2 M1 M2;obtain⟨e0,e1,e2⟩:=(B4.out.kept K6.out).c3;obtain⟨f0,f1,f2⟩:=(B4.out.kept K6.out).f3;by_cases h1:m3=0
 ·by_cases h2:n3=0
  ·have HV:=qh (HG.out h1 h2)
   subst h1 h2;obtain⟨c0,c1,c2⟩:=B5.out.c3;obtain⟨d0,d1,d2⟩:=B6.out.c3;clear e0 e1 e2 f0 f1 f2;go_wp2_with (go_at_call 91;(with_reducible refine(ADD.out _).mono ?_);rintro e w7 ⟨rfl,hk7⟩;have K7:=qh (K6.out.trans' hk7);obtain⟨e0,e1,e2⟩:=(B4.out.kept K7.out).c3;obtain⟨f0,f1,f2⟩:=(B4.out.kept K7.out).f3)
   exact bodyPost_ret (v:=qai V) (by simp[results,results121,go_sem,e0,e1,e2,qai]) rfl ⟨by rw[HV.out],(K1.out.trans' K7.out).qaO (by have:=HB.out;omega) _ _ _⟩
  ·have HV:=qh (HN.out (fun h=>h2 h.2))
   subst h1;go_wp2_with fail
   exact bodyPost_ret (v:=qai (zD,4)) (by simp[results,results121,go_sem,e0,e1,e2,qai,zD]) rfl ⟨by rw[HV.out],(K1.out.trans' K6.out).qaO (by have:=HB.out;omega) _ _ _⟩
 ·have HV:=qh (HN.out (fun h=>h1 h.1))
  go_wp2_with fail
  exact bodyPost_ret (v:=qai (zD,4)) (by simp[results,results121,go_sem,e0,e1,e2,qai,zD]) rfl ⟨by rw[HV.out],(K1.out.trans' K6.out).qaO (by have:=HB.out;omega) _ _ _⟩
theorem qg6 (x:GsD) (w:World) (hx:gsB x=true):
  Calls prog 80 #[.agg #[.bool x.re.neg,.string x.re.n,.int .i64 x.re.e,.bool x.im.neg,.string x.im.n,.int .i64 x.im.e]] w fun en w'=>en=.returned (qai (qca x))∧Kept w w':=by
 have TW:=qh (fun W=>qob x.re x.re x.im x.im W (qan.1 hx).1 (qan.1 hx).1 (qan.1 hx).2 (qan.1 hx).2);unfold qca;generalize twoS (mulS x.re x.re) (mulS x.im x.im)=R at *;obtain⟨⟨x0,x1,x2⟩,⟨x3,x4,x5⟩⟩:=x;simp only at TW⊢;clear hx;go_enter func80,ntmps80
 go_upto_region 1 with fail
 obtain⟨b,w1,hw,hb,B0,B1,K1,HB⟩:=qa6 w (LC1 x0 x1 x2 x3 x4 x5) 28 (LC0 false ⟨#[]⟩ 0) 24;rw[←hw,←hb];clear hw hb;obtain⟨c0,c1,c2,c3,c4,c5⟩:=B0.out.c6;go_wp2_with (go_at_call 121;(with_reducible refine(TW.out _).mono ?_);rintro e w3 ⟨rfl,hk3⟩;obtain⟨d0,d1,d2⟩:=(B1.out.kept hk3).c3;obtain⟨f0,f1,f2⟩:=(B1.out.kept hk3).f3;have K3:=qh hk3)
 exact bodyPost_ret (v:=qai R) (by simp[results,results80,go_sem,d0,d1,d2,qai]) rfl ⟨rfl,(K1.out.trans' K3.out).qaO (by have:=HB.out;omega) _ _ _⟩
end
section
set_option maxHeartbeats 3200000
set_option maxRecDepth 100000
theorem qiv (x y:GsD) (r:DyD) (w:World) (hx:gsB x=true) (hy:gsB y=true) (hr:qae r=true):
  Calls prog 176 #[.agg #[.bool x.re.neg,.string x.re.n,.int .i64 x.re.e,.bool x.im.neg,.string x.im.n,.int .i64 x.im.e],.agg #[.bool y.re.neg,.string y.re.n,.int .i64 y.re.e,.bool y.im.neg,.string y.im.n,.int .i64 y.im.e],.agg #[.bool r.neg,.string r.n,.int .i64 r.e]] w fun en w'=>en=.returned (.tuple #[.int .i64 (qeG x y r).1,.int .i64 (qeG x y r).2])∧Kept w w':=by
 have SUB:=qh (fun W=>qh9 x y W hx hy);have MUL:=qh (fun W=>qfV r r W hr hr);have HS:=qho x y;have HM:=qgY r r;have hS1:=qiA hx hy;have hM1:=qdf r r;unfold qeG;generalize qeB x y=S at *;generalize mulS r r=M at *;have NRM:=qh (fun W=>qg6 S.1 W hS1);have HN:(qca S.1).2=0∨qca S.1=(zD,4):=qgT _ _;have hN1:=qg9 S.1;generalize qca S.1=N at *;have CMP:=qh (fun W=>qfJ N.1 M.1 W hN1 hM1);generalize qdk N.1 M.1=C at *;obtain⟨⟨⟨a0,a1,a2⟩,⟨a3,a4,a5⟩⟩,a6⟩:=S;obtain⟨⟨n0,n1,n2⟩,n3⟩:=N;obtain⟨⟨m0,m1,m2⟩,m3⟩:=M;obtain⟨⟨x0,x1,x2⟩,⟨x3,x4,x5⟩⟩:=x;obtain⟨⟨y0,y1,y2⟩,⟨y3,y4,y5⟩⟩:=y;obtain⟨r0,r1,r2⟩:=r;simp only at SUB MUL NRM CMP HS HM HN⊢;have hs:a6=0∨a6=4:=HS.imp id (fun h=>(Prod.mk.inj h).2);have hn:n3=0∨n3=4:=HN.imp id (fun h=>(Prod.mk.inj h).2);have hm:m3=0∨m3=4:=HM.imp id (fun h=>(Prod.mk.inj h).2);clear hx hy hr HS HM HN hS1 hM1 hN1;go_enter func176,ntmps176
 go_upto_region 1 with fail
 obtain⟨b,w1,hw,hb,B0,B1,B2,K1,HB⟩:=qcj w (LC1 x0 x1 x2 x3 x4 x5) 28 (LC1 y0 y1 y2 y3 y4 y5) 28 (LC0 r0 r1 r2) 24;rw[←hw,←hb];clear hw hb;obtain⟨c0,c1,c2,c3,c4,c5⟩:=B0.out.c6;obtain⟨d0,d1,d2,d3,d4,d5⟩:=B1.out.c6;go_upto_region 2 with (go_at_call 79;(with_reducible refine(SUB.out _).mono ?_);rintro e w3 ⟨rfl,hk3⟩)
 have K4:=qh (Kept.new hk3 (.cells (LC1 a0 a1 a2 a3 a4 a5).toArray 28));have B3:=qh (Bx.new w3 (LC1 a0 a1 a2 a3 a4 a5) 28 w3.heap.size rfl);obtain⟨g,hg⟩: ∃g,g=w3.heap.size:=⟨_,rfl⟩
 rw[←hg]at B3⊢;clear hg hk3;generalize(w3.alloc (.cells (LC1 a0 a1 a2 a3 a4 a5).toArray 28))=w4 at *;clear SUB c0 c1 c2 c3 c4 c5 d0 d1 d2 d3 d4 d5;rcases hs with rfl|rfl
 ·obtain⟨c0,c1,c2,c3,c4,c5⟩:=B3.out.c6
  go_upto_region 5 with (go_at_call 80;(with_reducible refine(NRM.out _).mono ?_);rintro e w5 ⟨rfl,hk5⟩)
  have K6:=qh (Kept.new (K4.out.trans' hk5) (.cells (LC0 n0 n1 n2).toArray 24));have B4:=qh (Bx.new w5 (LC0 n0 n1 n2) 24 w5.heap.size rfl);obtain⟨g2,hg⟩: ∃g,g=w5.heap.size:=⟨_,rfl⟩
  rw[←hg]at B4⊢;clear hg hk5;generalize(w5.alloc (.cells (LC0 n0 n1 n2).toArray 24))=w6 at *;clear NRM c0 c1 c2 c3 c4 c5;obtain⟨c0,c1,c2⟩:=(B2.out.kept K6.out).c3;go_upto_region 6 with (go_at_call 127;(with_reducible refine(MUL.out _).mono ?_);rintro e w7 ⟨rfl,hk7⟩)
  have K8:=qh (Kept.new (K6.out.trans' hk7) (.cells (LC0 m0 m1 m2).toArray 24));have B5:=qh (Bx.new w7 (LC0 m0 m1 m2) 24 w7.heap.size rfl);replace B4:=qh ((B4.out.kept hk7).kept (Kept.new (Below.refl _ _) (.cells (LC0 m0 m1 m2).toArray 24)));obtain⟨g3,hg⟩: ∃g,g=w7.heap.size:=⟨_,rfl⟩
  rw[←hg]at B5⊢;clear hg hk7;generalize(w7.alloc (.cells (LC0 m0 m1 m2).toArray 24))=w8 at *;clear MUL c0 c1 c2;rcases hn with rfl|rfl
  ·rcases hm with rfl|rfl
   ·obtain⟨c0,c1,c2⟩:=B4.out.c3
    obtain⟨d0,d1,d2⟩:=B5.out.c3;go_wp2_with (go_at_call 81;(with_reducible refine(CMP.out _).mono ?_);rintro e w9 ⟨rfl,hk9⟩)
    go_ret2
    exact⟨rfl,(K1.out.trans' K8.out).trans' hk9⟩
   ·go_wp2_with fail
    go_ret2
    exact⟨rfl,K1.out.trans' K8.out⟩
  ·go_wp2_with fail
   go_ret2
   exact⟨rfl,K1.out.trans' K8.out⟩
 ·go_wp2_with fail
  go_ret2
  exact⟨rfl,K1.out.trans' K4.out⟩
theorem qjN (c:GsD) (r:DyD) (d:GsD) (s:DyD) (w:World) (hc:gsB c=true) (hr:qae r=true) (hd:gsB d=true) (hs:qae s=true):
  Calls prog 140 #[.agg #[.bool c.re.neg,.string c.re.n,.int .i64 c.re.e,.bool c.im.neg,.string c.im.n,.int .i64 c.im.e],.agg #[.bool r.neg,.string r.n,.int .i64 r.e],.agg #[.bool d.re.neg,.string d.re.n,.int .i64 d.re.e,.bool d.im.neg,.string d.im.n,.int .i64 d.im.e],.agg #[.bool s.neg,.string s.n,.int .i64 s.e]] w fun en w'=>en=.returned (.tuple #[.bool (qe5 c r d s).1,.int .i64 (qe5 c r d s).2])∧Kept w w':=by
 have CMP:=qh (fun W=>qfJ r s W hr hs);have SUB:=qh (fun W=>qnL s r W hs hr);have hT1:=qiD hs hr;have HS:=qhh s r;have HV:qe5 c r d s=if 0<qdk r s then(false,0)else if (qdI s r).2=0 then(decide ((qeG c d (qdI s r).1).2=0)&&decide ((qeG c d (qdI s r).1).1≤0),(qeG c d (qdI s r).1).2)else(false,4):=rfl
 generalize qdI s r=T at *;have FAR:=qh (fun W=>qiv c d T.1 W hc hd hT1);generalize qeG c d T.1=F at *;generalize qe5 c r d s=V at *;generalize qdk r s=k at *;obtain⟨⟨x0,x1,x2⟩,⟨x3,x4,x5⟩⟩:=c;obtain⟨⟨y0,y1,y2⟩,⟨y3,y4,y5⟩⟩:=d;obtain⟨r0,r1,r2⟩:=r;obtain⟨s0,s1,s2⟩:=s;obtain⟨⟨t0,t1,t2⟩,t3⟩:=T;obtain⟨n,f⟩:=F;simp only at CMP SUB FAR HV HS⊢;have ht:t3=0∨t3=4:=HS.imp id (fun h=>(Prod.mk.inj h).2);have HVV:=qh HV;clear hc hr hd hs hT1 HS HV;go_enter func140,ntmps140
 go_upto_region 1 with fail
 obtain⟨b,w1,hw,hb,B0,B1,B2,B3,K1,HB⟩:=qpV w (LC1 x0 x1 x2 x3 x4 x5) 28 (LC0 r0 r1 r2) 24 (LC1 y0 y1 y2 y3 y4 y5) 28 (LC0 s0 s1 s2) 24;rw[←hw,←hb];clear hw hb;obtain⟨c0,c1,c2⟩:=B1.out.c3;obtain⟨d0,d1,d2⟩:=B3.out.c3;by_cases hk:0<k
 ·have H1:=qh (show V=(false,0) by rw[HVV.out,if_pos hk])
  go_wp2_with (go_at_call 81;(with_reducible refine(CMP.out _).mono ?_);rintro e w3 ⟨rfl,hk3⟩)
  exact bodyPost_ret (v:=.tuple #[.bool false,.int .i64 0]) (by simp[results,results140,go_sem]) rfl ⟨by rw[H1.out],K1.out.trans' hk3⟩
 ·have H1:=qh (show¬0<k from hk)
  go_upto_region 3 with (go_at_call 81;(with_reducible refine(CMP.out _).mono ?_);rintro e w3 ⟨rfl,hk3⟩)
  have K3:=qh hk3;clear hk3 c0 c1 c2 d0 d1 d2;obtain⟨c0,c1,c2⟩:=(B1.out.kept K3.out).c3;obtain⟨d0,d1,d2⟩:=(B3.out.kept K3.out).c3;go_upto_region 4 with (go_at_call 175;(with_reducible refine(SUB.out _).mono ?_);rintro e w4 ⟨rfl,hk4⟩)
  have K5:=qh (Kept.new (K3.out.trans' hk4) (.cells (LC0 t0 t1 t2).toArray 24));have B4:=qh (Bx.new w4 (LC0 t0 t1 t2) 24 w4.heap.size rfl);obtain⟨g,hg⟩: ∃g,g=w4.heap.size:=⟨_,rfl⟩
  rw[←hg]at B4⊢;clear hg hk4;generalize(w4.alloc (.cells (LC0 t0 t1 t2).toArray 24))=w5 at *;clear c0 c1 c2 d0 d1 d2 SUB CMP;rcases ht with rfl|rfl
  ·obtain⟨c0,c1,c2,c3,c4,c5⟩:=(B0.out.kept K5.out).c6
   obtain⟨d0,d1,d2,d3,d4,d5⟩:=(B2.out.kept K5.out).c6;obtain⟨e0,e1,e2⟩:=B4.out.c3;have H2:=qh (show V=(decide (f=0)&&decide (n≤0),f) by rw[HVV.out,if_neg (by have:=H1.out;omega)];rfl);by_cases hf:f=0
   ·subst hf
    go_wp2_with (go_at_call 176;(with_reducible refine(FAR.out _).mono ?_);rintro e w6 ⟨rfl,hk6⟩)
    exact bodyPost_ret (v:=.tuple #[.bool (decide (n≤0)),.int .i64 0]) (by simp[results,results140,go_sem]) rfl ⟨by rw[H2.out];simp,(K1.out.trans' K5.out).trans' hk6⟩
   ·go_wp2_with (go_at_call 176;(with_reducible refine(FAR.out _).mono ?_);rintro e w6 ⟨rfl,hk6⟩)
    exact bodyPost_ret (v:=.tuple #[.bool false,.int .i64 f]) (by simp[results,results140,go_sem]) rfl ⟨by rw[H2.out];simp[hf],(K1.out.trans' K5.out).trans' hk6⟩
  ·have H2:=qh (show V=(false,4) by rw[HVV.out,if_neg (by have:=H1.out;omega)];rfl)
   go_wp2_with fail
   exact bodyPost_ret (v:=.tuple #[.bool false,.int .i64 4]) (by simp[results,results140,go_sem]) rfl ⟨by rw[H2.out],K1.out.trans' K5.out⟩
theorem qkq (c:GsD) (r:DyD) (d:GsD) (s:DyD) (w:World) (hc:gsB c=true) (hr:qae r=true) (hd:gsB d=true) (hs:qae s=true):
  Calls prog 141 #[.agg #[.bool c.re.neg,.string c.re.n,.int .i64 c.re.e,.bool c.im.neg,.string c.im.n,.int .i64 c.im.e],.agg #[.bool r.neg,.string r.n,.int .i64 r.e],.agg #[.bool d.re.neg,.string d.re.n,.int .i64 d.re.e,.bool d.im.neg,.string d.im.n,.int .i64 d.im.e],.agg #[.bool s.neg,.string s.n,.int .i64 s.e]] w fun en w'=>en=.returned (.tuple #[.bool (qgc c r d s).1,.int .i64 (qgc c r d s).2])∧Kept w w':=by
 have ADD:=qh (fun W=>qdx r s W hr hs);have hT1:=qfB hr hs;have HS:=qdH r s;have HV:qgc c r d s=if (qaE r s).2=0 then(decide ((qeG c d (qaE r s).1).2=0)&&decide (0<(qeG c d (qaE r s).1).1),(qeG c d (qaE r s).1).2)else(false,4):=rfl
 generalize qaE r s=T at *;have FAR:=qh (fun W=>qiv c d T.1 W hc hd hT1);generalize qeG c d T.1=F at *;generalize qgc c r d s=V at *;obtain⟨⟨x0,x1,x2⟩,⟨x3,x4,x5⟩⟩:=c;obtain⟨⟨y0,y1,y2⟩,⟨y3,y4,y5⟩⟩:=d;obtain⟨r0,r1,r2⟩:=r;obtain⟨s0,s1,s2⟩:=s;obtain⟨⟨t0,t1,t2⟩,t3⟩:=T;obtain⟨n,f⟩:=F;simp only at ADD FAR HV HS⊢;have ht:t3=0∨t3=4:=HS.imp id (fun h=>(Prod.mk.inj h).2);have HVV:=qh HV;clear hc hr hd hs hT1 HS HV;go_enter func141,ntmps141
 go_upto_region 1 with fail
 obtain⟨b,w1,hw,hb,B0,B1,B2,B3,K1,HB⟩:=qpV w (LC1 x0 x1 x2 x3 x4 x5) 28 (LC0 r0 r1 r2) 24 (LC1 y0 y1 y2 y3 y4 y5) 28 (LC0 s0 s1 s2) 24;rw[←hw,←hb];clear hw hb;obtain⟨c0,c1,c2⟩:=B1.out.c3;obtain⟨d0,d1,d2⟩:=B3.out.c3;go_upto_region 2 with (go_at_call 91;(with_reducible refine(ADD.out _).mono ?_);rintro e w4 ⟨rfl,hk4⟩)
 have K5:=qh (Kept.new hk4 (.cells (LC0 t0 t1 t2).toArray 24));have B4:=qh (Bx.new w4 (LC0 t0 t1 t2) 24 w4.heap.size rfl);obtain⟨g,hg⟩: ∃g,g=w4.heap.size:=⟨_,rfl⟩
 rw[←hg]at B4⊢;clear hg hk4;generalize(w4.alloc (.cells (LC0 t0 t1 t2).toArray 24))=w5 at *;clear c0 c1 c2 d0 d1 d2 ADD;rcases ht with rfl|rfl
 ·obtain⟨c0,c1,c2,c3,c4,c5⟩:=(B0.out.kept K5.out).c6
  obtain⟨d0,d1,d2,d3,d4,d5⟩:=(B2.out.kept K5.out).c6;obtain⟨e0,e1,e2⟩:=B4.out.c3;have H2:=qh (show V=(decide (f=0)&&decide (0<n),f) by rw[HVV.out];rfl);by_cases hf:f=0
  ·subst hf
   go_wp2_with (go_at_call 176;(with_reducible refine(FAR.out _).mono ?_);rintro e w6 ⟨rfl,hk6⟩)
   exact bodyPost_ret (v:=.tuple #[.bool (decide (0<n)),.int .i64 0]) (by simp[results,results141,go_sem]) rfl ⟨by rw[H2.out];simp,(K1.out.trans' K5.out).trans' hk6⟩
  ·go_wp2_with (go_at_call 176;(with_reducible refine(FAR.out _).mono ?_);rintro e w6 ⟨rfl,hk6⟩)
   exact bodyPost_ret (v:=.tuple #[.bool false,.int .i64 f]) (by simp[results,results141,go_sem]) rfl ⟨by rw[H2.out];simp[hf],(K1.out.trans' K5.out).trans' hk6⟩
 ·have H2:=qh (show V=(false,4) by rw[HVV.out];rfl)
  go_wp2_with fail
  exact bodyPost_ret (v:=.tuple #[.bool false,.int .i64 4]) (by simp[results,results141,go_sem]) rfl ⟨by rw[H2.out],K1.out.trans' K5.out⟩
end
section
set_option maxHeartbeats 1600000
set_option maxRecDepth 100000
structure SqD.ok (s:SqD):Prop where
 left:s.left.ok
 low:s.low.ok
 e0: -9223372036854775808≤s.e
 e1:s.e≤9223372036854775807
theorem qds {s:SqD} (h:sqB s=true):s.ok:=by
 obtain⟨h1,h2,h3,h4⟩:=qax.1 h;exact⟨qcZ h1,qcZ h2,by omega,by omega⟩
theorem qoJ (e:Int) (w:World):Calls prog 95 #[.int .i64 e] w fun en w'=>en=.returned (.bool (decide (-4096≤e)&&decide (e≤4096)))∧w'=w:=by
 by_cases h1: -4096≤e
 ·by_cases h2:e≤4096
  ·go_enter func95,ntmps95
   go_wp2
   go_ret
   exact⟨by simp[h1,h2],rfl⟩
  ·go_enter func95,ntmps95
   go_wp2
   go_ret
   exact⟨by simp[h1,h2],rfl⟩
 ·go_enter func95,ntmps95
  go_wp2
  go_ret
  exact⟨by simp;omega,rfl⟩
theorem qbx (s:SqD) (w:World) (hs:s.ok):Calls prog 54 #[.agg #[.bool s.left.neg,.string s.left.n,.int .i64 s.left.e,.bool s.low.neg,.string s.low.n,.int .i64 s.low.e,.int .i64 s.e]] w fun en w'=>en=.returned (.int .i64 (if sqB s=true then 0 else 240))∧Kept w w':=by
 have C1:=qh (fun W=>qbq s.left W hs.left);have C2:=qh (fun W=>qbq s.low W hs.low);have C3:=qh (qoJ s.e);have HR:=qh (show sqB s=(qae s.left&&(qae s.low&&(decide (-4096≤s.e)&&decide (s.e≤4096))))from rfl);unfold qcG at C1 C2;obtain⟨V,hV⟩: ∃V:Int,V=if sqB s=true then 0 else 240:=⟨_,rfl⟩
 rw[←hV];have HV:=qh hV;clear hV;rw[HR.out]at HV;clear HR;generalize qae s.left=b1 at *;generalize qae s.low=b2 at *;generalize(decide (-4096≤s.e)&&decide (s.e≤4096))=b3 at *;obtain⟨⟨a0,a1,a2⟩,⟨a3,a4,a5⟩,a6⟩:=s;simp only at C1 C2 C3⊢;clear hs;cases b1 with
 |false=>
  go_enter func54,ntmps54
  go_upto_region 1 with fail
  obtain⟨b,w1,hw,hb,B0,K1,HB⟩:=qa4 w (LC3 a0 a1 a2 a3 a4 a5 a6) 26;rw[←hw,←hb];clear hw hb;obtain⟨c0,c1,c2,c3,c4,c5,c6⟩:=B0.out.c7;go_wp2_with (go_at_call 19;(with_reducible refine(C1.out _).mono ?_);rintro e w3 ⟨rfl,hk3⟩)
  go_ret
  exact⟨by rw[HV.out];rfl,K1.out.trans' hk3⟩
 |true=>
  cases b2 with
  |false=>
   go_enter func54,ntmps54
   go_upto_region 1 with fail
   obtain⟨b,w1,hw,hb,B0,K1,HB⟩:=qa4 w (LC3 a0 a1 a2 a3 a4 a5 a6) 26;rw[←hw,←hb];clear hw hb;obtain⟨c0,c1,c2,c3,c4,c5,c6⟩:=B0.out.c7
   go_wp2_with (first
    |(go_at_call 19;(with_reducible refine(C1.out _).mono ?_);rintro e w3 ⟨rfl,hk3⟩;have K3:=qh hk3;obtain⟨c0,c1,c2,c3,c4,c5,c6⟩:=(B0.out.kept K3.out).c7)
    |(go_at_call 19;(with_reducible refine(C2.out _).mono ?_);rintro e w4 ⟨rfl,hk4⟩))
   go_ret
   exact⟨by rw[HV.out];rfl,(K1.out.trans' K3.out).trans' hk4⟩
  |true=>
   cases b3 with
   |false=>
    go_enter func54,ntmps54
    go_upto_region 1 with fail
    obtain⟨b,w1,hw,hb,B0,K1,HB⟩:=qa4 w (LC3 a0 a1 a2 a3 a4 a5 a6) 26;rw[←hw,←hb];clear hw hb;obtain⟨c0,c1,c2,c3,c4,c5,c6⟩:=B0.out.c7
    go_wp2_with (first
     |(go_at_call 19;(with_reducible refine(C1.out _).mono ?_);rintro e w3 ⟨rfl,hk3⟩;have K3:=qh hk3;obtain⟨c0,c1,c2,c3,c4,c5,c6⟩:=(B0.out.kept K3.out).c7)
     |(go_at_call 19;(with_reducible refine(C2.out _).mono ?_);rintro e w4 ⟨rfl,hk4⟩;have K4:=qh (K3.out.trans' hk4);obtain⟨c0,c1,c2,c3,c4,c5,c6⟩:=(B0.out.kept K4.out).c7)
     |(go_at_call 95;(with_reducible refine(C3.out _).mono ?_);rintro e w5 ⟨rfl,hw5⟩;replace hw5:=hw5.symm;subst hw5))
    go_ret
    exact⟨by rw[HV.out];rfl,K1.out.trans' K4.out⟩
   |true=>
    go_enter func54,ntmps54
    go_upto_region 1 with fail
    obtain⟨b,w1,hw,hb,B0,K1,HB⟩:=qa4 w (LC3 a0 a1 a2 a3 a4 a5 a6) 26;rw[←hw,←hb];clear hw hb;obtain⟨c0,c1,c2,c3,c4,c5,c6⟩:=B0.out.c7
    go_wp2_with (first
     |(go_at_call 19;(with_reducible refine(C1.out _).mono ?_);rintro e w3 ⟨rfl,hk3⟩;have K3:=qh hk3;obtain⟨c0,c1,c2,c3,c4,c5,c6⟩:=(B0.out.kept K3.out).c7)
     |(go_at_call 19;(with_reducible refine(C2.out _).mono ?_);rintro e w4 ⟨rfl,hk4⟩;have K4:=qh (K3.out.trans' hk4);obtain⟨c0,c1,c2,c3,c4,c5,c6⟩:=(B0.out.kept K4.out).c7)
     |(go_at_call 95;(with_reducible refine(C3.out _).mono ?_);rintro e w5 ⟨rfl,hw5⟩;replace hw5:=hw5.symm;subst hw5))
    go_ret
    exact⟨by rw[HV.out];rfl,K1.out.trans' K4.out⟩
theorem qit (d:DyD) (n e:Int) (w:World) (hd:qae d=true) (hn:n.natAbs≤1000000) (h1: -1000000≤e) (h2:e≤1000000) (hT:T32 w):
  Calls prog 96 #[.agg #[.bool d.neg,.string d.n,.int .i64 d.e],.int .i64 n,.int .i64 e] w fun en w'=>en=.returned (qai (qaP d n e))∧Kept w w':=by
 have OF:Hid (∀W,Kept w W→Calls prog 132 #[.int .i64 n,.int .i64 e] W fun en w'=>en=.returned (qai (qbb n e))∧Kept W w'):=fun W h=>qlp n e W (by omega) (by omega) (by omega) (by omega) (hT.kept h);have hz:=qlH (n:=n) (e:=e) (by omega) h1 h2;have ho:qae (qbb n e).1=true:=qet _ _;unfold qaP ofS;generalize qbb n e=F at *;have ADD:Hid (∀W,Kept w W→Calls prog 90 #[.agg #[.bool d.neg,.string d.n,.int .i64 d.e],.agg #[.bool F.1.neg,.string F.1.n,.int .i64 F.1.e]] W fun en w'=>en=.returned (qai (qaE d F.1))∧Kept W w'):=fun W h=>qfK d F.1 W hd ho (hT.kept h);generalize qaE d F.1=R at *;obtain⟨⟨f0,f1,f2⟩,f3⟩:=F;obtain⟨d0,d1,d2⟩:=d;simp only at OF hz ADD⊢;subst hz;clear hd hn h1 h2 hT ho;go_enter func96,ntmps96
 go_upto_region 1 with fail
 obtain⟨b,w1,hw,hb,B0,B1,K1,HB⟩:=qa6 w (LC0 d0 d1 d2) 24 (LC0 false ⟨#[]⟩ 0) 24;rw[←hw,←hb];clear hw hb;go_upto_region 2 with (go_at_call 132;(with_reducible refine(OF.out _ K1.out).mono ?_);rintro e w3 ⟨rfl,hk3⟩)
 have K4:=qh (Kept.new hk3 (.cells (LC0 f0 f1 f2).toArray 24));have B3:=qh (Bx.new w3 (LC0 f0 f1 f2) 24 w3.heap.size rfl);obtain⟨g,hg⟩: ∃g,g=w3.heap.size:=⟨_,rfl⟩
 rw[←hg]at B3⊢;clear hg hk3 OF;generalize(w3.alloc (.cells (LC0 f0 f1 f2).toArray 24))=w4 at *;obtain⟨c0,c1,c2⟩:=(B0.out.kept K4.out).c3;obtain⟨e0,e1,e2⟩:=B3.out.c3;go_wp2_with (go_at_call 90;(with_reducible refine(ADD.out _ (K1.out.trans' K4.out)).mono ?_);rintro e w5 ⟨rfl,hk5⟩;have K5:=qh (K4.out.trans' hk5);obtain⟨r0,r1,r2⟩:=(B1.out.kept K5.out).c3;obtain⟨t0,t1,t2⟩:=(B1.out.kept K5.out).f3)
 exact bodyPost_ret (v:=qai R) (by simp[results,results96,go_sem,r0,r1,r2,qai]) rfl ⟨rfl,(K1.out.trans' K5.out).qaO (by have:=HB.out;omega) _ _ _⟩
end
section
set_option maxHeartbeats 3200000
set_option maxRecDepth 100000
theorem qjA (d:DyD) (n e:Int):(qaP d n e).2=0∨qaP d n e=(zD,4):=qdH _ _
theorem qbp (s:SqD) (r u:Int) (w:World) (hs:sqB s=true) (hr:r.natAbs≤1000) (hu:u.natAbs≤1000) (hT:T32 w):
  Calls prog 55 #[.agg #[.bool s.left.neg,.string s.left.n,.int .i64 s.left.e,.bool s.low.neg,.string s.low.n,.int .i64 s.low.e,.int .i64 s.e],.int .i64 r,.int .i64 u] w
   fun en w'=>en=.returned (qaF (qaG (qaP s.left r (s.e-1)) (qaP s.low u (s.e-1))))∧Kept w w':=by
 obtain⟨hs1,hs2,hs3,hs4⟩:=qax.1 hs;have M1:Hid (∀W,Kept w W→Calls prog 96 #[.agg #[.bool s.left.neg,.string s.left.n,.int .i64 s.left.e],.int .i64 r,.int .i64 (s.e-1)] W fun en w'=>en=.returned (qai (qaP s.left r (s.e-1)))∧Kept W w'):=fun W h=>qit s.left r (s.e-1) W hs1 (by omega) (by omega) (by omega) (hT.kept h);have M2:Hid (∀W,Kept w W→Calls prog 96 #[.agg #[.bool s.low.neg,.string s.low.n,.int .i64 s.low.e],.int .i64 u,.int .i64 (s.e-1)] W fun en w'=>en=.returned (qai (qaP s.low u (s.e-1)))∧Kept W w'):=fun W h=>qit s.low u (s.e-1) W hs2 (by omega) (by omega) (by omega) (hT.kept h);have H1:=qjA s.left r (s.e-1);have H2:=qjA s.low u (s.e-1);generalize qaP s.left r (s.e-1)=R at *;generalize qaP s.low u (s.e-1)=Q at *;obtain⟨V,hV⟩: ∃V,V=qaG R Q:=⟨_,rfl⟩
 rw[←hV];have HV:=qh hV;obtain⟨⟨r0,r1,r2⟩,r3⟩:=R;obtain⟨⟨q0,q1,q2⟩,q3⟩:=Q;obtain⟨⟨a0,a1,a2⟩,⟨a3,a4,a5⟩,a6⟩:=s;simp only at M1 M2 H1 H2 hs3 hs4⊢;have h1:r3=0∨r3=4:=H1.imp id (fun h=>(Prod.mk.inj h).2);have h2:q3=0∨q3=4:=H2.imp id (fun h=>(Prod.mk.inj h).2);clear hs hs1 hs2 hr hu hT H1 H2 hV;go_enter func55,ntmps55
 go_upto_region 1 with fail
 obtain⟨b,w1,hw,hb,B0,B1,K1,HB⟩:=qa6 w (LC3 a0 a1 a2 a3 a4 a5 a6) 26 ZL0 28;rw[←hw,←hb];clear hw hb;obtain⟨c0,c1,c2,c3,c4,c5,c6⟩:=B0.out.c7;go_upto_region 2 with (go_at_call 96;(with_reducible refine(M1.out _ K1.out).mono ?_);rintro e w3 ⟨rfl,hk3⟩)
 have K4:=qh (Kept.new hk3 (.cells (LC0 r0 r1 r2).toArray 24));have B3:=qh (Bx.new w3 (LC0 r0 r1 r2) 24 w3.heap.size rfl);obtain⟨g,hg⟩: ∃g,g=w3.heap.size:=⟨_,rfl⟩
 rw[←hg]at B3⊢;clear hg hk3 M1 c0 c1 c2 c3 c4 c5 c6;generalize(w3.alloc (.cells (LC0 r0 r1 r2).toArray 24))=w4 at *;rcases h1 with rfl|rfl
 ·obtain⟨c0,c1,c2,c3,c4,c5,c6⟩:=(B0.out.kept K4.out).c7
  go_upto_region 5 with (go_at_call 96;(with_reducible refine(M2.out _ (K1.out.trans' K4.out)).mono ?_);rintro e w5 ⟨rfl,hk5⟩)
  have K6:=qh (Kept.new (K4.out.trans' hk5) (.cells (LC0 q0 q1 q2).toArray 24));have B4:=qh (Bx.new w5 (LC0 q0 q1 q2) 24 w5.heap.size rfl);have B5:=qh ((B3.out.kept hk5).kept (Kept.new (Below.refl _ _) (.cells (LC0 q0 q1 q2).toArray 24)));obtain⟨g2,hg2⟩: ∃g,g=w5.heap.size:=⟨_,rfl⟩
  rw[←hg2]at B4⊢;clear hg2 hk5 K4 B3 M2 c0 c1 c2 c3 c4 c5 c6;generalize(w5.alloc (.cells (LC0 q0 q1 q2).toArray 24))=w6 at *;obtain⟨e0,e1,e2,e3,e4,e5⟩:=(B1.out.kept K6.out).c6;obtain⟨f0,f1,f2,f3,f4,f5⟩:=(B1.out.kept K6.out).f6;rcases h2 with rfl|rfl
  ·obtain⟨c0,c1,c2⟩:=B5.out.c3
   obtain⟨d0,d1,d2⟩:=B4.out.c3;go_wp2_with fail
   exact bodyPost_ret (v:=qaF (⟨⟨r0,r1,r2⟩,⟨q0,q1,q2⟩⟩,0)) (by simp[results,results55,go_sem,e0,e1,e2,e3,e4,e5,qaF]) rfl ⟨by rw[HV.out];rfl,(K1.out.trans' K6.out).qde (by have:=HB.out;omega) _ _ _ _ _ _⟩
  ·go_wp2_with fail
   exact bodyPost_ret (v:=qaF (zG,4)) (by simp[results,results55,go_sem,e0,e1,e2,e3,e4,e5,qaF,zG,zD]) rfl ⟨by rw[HV.out];rfl,(K1.out.trans' K6.out).qde (by have:=HB.out;omega) _ _ _ _ _ _⟩
 ·obtain⟨e0,e1,e2,e3,e4,e5⟩:=(B1.out.kept K4.out).c6
  obtain⟨f0,f1,f2,f3,f4,f5⟩:=(B1.out.kept K4.out).f6;go_wp2_with fail
  exact bodyPost_ret (v:=qaF (zG,4)) (by simp[results,results55,go_sem,e0,e1,e2,e3,e4,e5,qaF,zG,zD]) rfl ⟨by rw[HV.out];rfl,(K1.out.trans' K4.out).qde (by have:=HB.out;omega) _ _ _ _ _ _⟩
theorem qkV (s:SqD) (w:World) (hs:sqB s=true) (hT:T32 w):
  Calls prog 64 #[.agg #[.bool s.left.neg,.string s.left.n,.int .i64 s.left.e,.bool s.low.neg,.string s.low.n,.int .i64 s.low.e,.int .i64 s.e]] w fun en w'=>en=.returned (qaF (qbB s))∧Kept w w':=by
 have RT:Hid (∀W,Calls prog 54 #[.agg #[.bool s.left.neg,.string s.left.n,.int .i64 s.left.e,.bool s.low.neg,.string s.low.n,.int .i64 s.low.e,.int .i64 s.e]] W fun en w'=>en=.returned (.int .i64 0)∧Kept W w'):=fun W=>by
  have:=qbx s W (qds hs);rwa [hs]at this
 have AT:Hid (∀W,Kept w W→Calls prog 55 #[.agg #[.bool s.left.neg,.string s.left.n,.int .i64 s.left.e,.bool s.low.neg,.string s.low.n,.int .i64 s.low.e,.int .i64 s.e],.int .i64 1,.int .i64 1] W fun en w'=>en=.returned (qaF (qbB s))∧Kept W w'):=fun W h=>qbp s 1 1 W hs (by decide) (by decide) (hT.kept h);generalize qbB s=R at *;obtain⟨⟨a0,a1,a2⟩,⟨a3,a4,a5⟩,a6⟩:=s;simp only at RT AT⊢;clear hs hT;go_enter func64,ntmps64
 go_upto_region 1 with fail
 obtain⟨b,w1,hw,hb,B0,B1,K1,HB⟩:=qa6 w (LC3 a0 a1 a2 a3 a4 a5 a6) 26 ZL0 28;rw[←hw,←hb];clear hw hb;obtain⟨c0,c1,c2,c3,c4,c5,c6⟩:=B0.out.c7
 go_wp2_with (first
  |(go_at_call 54;(with_reducible refine(RT.out _).mono ?_);rintro e w3 ⟨rfl,hk3⟩;have K3:=qh hk3;obtain⟨c0,c1,c2,c3,c4,c5,c6⟩:=(B0.out.kept K3.out).c7)
  |(go_at_call 55;(with_reducible refine(AT.out _ (K1.out.trans' K3.out)).mono ?_);rintro e w4 ⟨rfl,hk4⟩;have K4:=qh (K3.out.trans' hk4);obtain⟨e0,e1,e2,e3,e4,e5⟩:=(B1.out.kept K4.out).c6;obtain⟨f0,f1,f2,f3,f4,f5⟩:=(B1.out.kept K4.out).f6))
 exact bodyPost_ret (v:=qaF R) (by simp[results,results64,go_sem,e0,e1,e2,e3,e4,e5,qaF]) rfl ⟨rfl,(K1.out.trans' K4.out).qde (by have:=HB.out;omega) _ _ _ _ _ _⟩
theorem area_any (s:SqD) (w:World) (hs:sqB s=true) (hT:T32 w):
  Calls prog 89 #[.agg #[.bool s.left.neg,.string s.left.n,.int .i64 s.left.e,.bool s.low.neg,.string s.low.n,.int .i64 s.low.e,.int .i64 s.e]] w fun en w'=>en=.returned (qai (qbW s,0))∧Kept w w':=by
 have RT:Hid (∀W,Calls prog 54 #[.agg #[.bool s.left.neg,.string s.left.n,.int .i64 s.left.e,.bool s.low.neg,.string s.low.n,.int .i64 s.low.e,.int .i64 s.e]] W fun en w'=>en=.returned (.int .i64 0)∧Kept W w'):=fun W=>by
  have:=qbx s W (qds hs);rwa [hs]at this
 obtain⟨hs1,hs2,hs3,hs4⟩:=qax.1 hs
 have OF:Hid (∀W,Kept w W→Calls prog 132 #[.int .i64 1,.int .i64 (2*s.e)] W fun en w'=>en=.returned (qai (qbW s,0))∧Kept W w'):=fun W h=>by
  have:=qlp 1 (2*s.e) W (by omega) (by omega) (by omega) (by omega) (hT.kept h)
  have e:qbb 1 (2*s.e)=(qbW s,0):=by
   have:=qlH (n:=1) (e:=2*s.e) (by omega) (by omega) (by omega);unfold qbW ofS;generalize qbb 1 (2*s.e)=F at *;obtain⟨F1,F2⟩:=F;simp only at this;rw[this]
  rwa [e]at this
 generalize qbW s=R at *;obtain⟨⟨a0,a1,a2⟩,⟨a3,a4,a5⟩,a6⟩:=s;simp only at RT OF hs3 hs4⊢;clear hs hs1 hs2 hT;go_enter func89,ntmps89
 go_upto_region 1 with fail
 obtain⟨b,w1,hw,hb,B0,B1,K1,HB⟩:=qa6 w (LC3 a0 a1 a2 a3 a4 a5 a6) 26 (LC0 false ⟨#[]⟩ 0) 24;rw[←hw,←hb];clear hw hb;obtain⟨c0,c1,c2,c3,c4,c5,c6⟩:=B0.out.c7
 go_wp2_with (first
  |(go_at_call 54;(with_reducible refine(RT.out _).mono ?_);rintro e w3 ⟨rfl,hk3⟩;have K3:=qh hk3;obtain⟨c0,c1,c2,c3,c4,c5,c6⟩:=(B0.out.kept K3.out).c7)
  |(go_at_call 132;(with_reducible refine(OF.out _ (K1.out.trans' K3.out)).mono ?_);rintro e w4 ⟨rfl,hk4⟩;have K4:=qh (K3.out.trans' hk4);obtain⟨e0,e1,e2⟩:=(B1.out.kept K4.out).c3;obtain⟨f0,f1,f2⟩:=(B1.out.kept K4.out).f3))
 exact bodyPost_ret (v:=qai (R,0)) (by simp[results,results89,go_sem,e0,e1,e2,qai]) rfl ⟨rfl,(K1.out.trans' K4.out).qaO (by have:=HB.out;omega) _ _ _⟩
end
end Go.Proofs.YtfdnledkcongaaaGreatDoor
