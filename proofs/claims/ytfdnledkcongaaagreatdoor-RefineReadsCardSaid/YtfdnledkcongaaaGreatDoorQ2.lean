/- Texts of one claim laid together: WidJ, WidK, WidL, Dyb, Nea, FltO, FlD, Vie, Tre, Ord, Pre, Byt, DoP. -/
import Derived.Test.YtfdnledkcongaaaGreatDoorQ1
import Derived.Deep.DeepCutAuto
import Ieee.Word
import Derived.Laws.ComplexArith
import Derived.WalkKit
set_option linter.all false
namespace Go.Proofs.YtfdnledkcongaaaGreatDoor
open Go.RowKit Go.Proofs.Tryz
section
set_option maxHeartbeats 1600000
set_option maxRecDepth 100000
theorem qba {W V W':World} {r:Option Nat} (h:Kept W V) (hg:V.grownBy W' r):W.grownBy W' r:=
 ⟨hg.os.trans h.os,hg.tape.trans h.tape,hg.output.trans h.output,Nat.le_trans h.size hg.size,fun k hk hne=>(hg.block k (Nat.lt_of_lt_of_le hk h.size) hne).trans (h.block k hk)⟩
theorem qi6 (p q:Nat) (b0:Bool) (u:Value) (x:Int) (k:Nat) (w:World) (hx:qar w p x k) (hq:qaX w q b0 u) (hu: ∀x:Int,u≠ .int .u32 x):
  Calls prog 151 #[.pointer (some ⟨q,0,none⟩),.pointer (some ⟨p,0,none⟩)] w fun e w'=>e=.returned (.pointer (some ⟨q,0,none⟩))∧qar w' q (-x) k∧w.grownBy w' (some q):=by
 obtain⟨v,hb,hd⟩:=hx
 have CL:Hid (∀W,Kept w W→Calls prog 152 #[.pointer (some ⟨q,0,none⟩),.bool (!decide (x<0)),v] W fun e w'=>e=.returned (.pointer (some ⟨q,0,none⟩))∧qar w' q (-x) k∧W.grownBy w' (some q)):=fun W h=>
  qbY q b0 _ u v (-x) x.natAbs k W (hq.kept h) hu (hd.kept h) (by omega) (by rw[Bool.eq_iff_iff];simp only[Bool.and_eq_true,Bool.not_eq_true',decide_eq_true_eq,decide_eq_false_iff_not];omega)
 obtain⟨b,hbv⟩: ∃b,b=decide (x<0):=⟨_,rfl⟩
 rw[←hbv]at hb CL;have HS:=qh (And.intro hb.c0 hb.c1);clear hbv hb hd hq hu;go_enter func151,ntmps151
 go_wp2_with fail
 refine qac (fun W=>W.cell? ⟨p,0,none⟩=some (.bool b)∧W.cell? ⟨p,1,none⟩=some v) [10,11] (by kernel_rfl) ?_ (fun hHeld=>?_)
 ·first|exact HS.out|assumption
 refine wS 0 5 ?_;refine wS 1 6 ?_;refine wS 2 7 ?_;refine wS 3 8 ?_;refine wS 4 9 ?_;refine wS 5 10 ?_;refine wS 6 11 ?_;refine wS 7 12 ?_;refine wS 8 13 ?_;refine wS 9 14 ?_;refine eS 10 fun K hK=>?_;go_simp;(refine(CL.out _ ((Below.refl _ _).drew)).mono ?_;rintro e w9 ⟨rfl,h9,hg9⟩)
 refine hK.out _ _ ?_;clear hK K;try simp only[Act.put,tdy]
 refine eS 11 fun K hK=>?_;go_simp;refine hK.out _ _ ?_;clear hK K;try simp only[Act.put,tdy]
 refine dS ?_ _;go_wp2_with fail
 go_ret
 exact⟨rfl,h9,qba ((Below.refl _ w).drew) hg9⟩
theorem qod (p q:Nat) (b0:Bool) (u:Value) (x:Int) (k:Nat) (w:World) (hx:qar w p x k) (hq:qaX w q b0 u) (hu: ∀x:Int,u≠ .int .u32 x):
  Calls prog 168 #[.pointer (some ⟨q,0,none⟩),.pointer (some ⟨p,0,none⟩)] w fun e w'=>e=.returned (.pointer (some ⟨q,0,none⟩))∧qar w' q (x.natAbs:Int) k∧w.grownBy w' (some q):=by
 obtain⟨v,hb,hd⟩:=hx;have CL:=qh (qbY q b0 false u v (x.natAbs:Int) x.natAbs k w hq hu hd (by omega) (by rw[Bool.eq_iff_iff];simp));have c1:=hb.c1;clear hb hd hq hu;go_enter func168,ntmps168
 go_wp2_with (go_at_call 152;refine CL.out.mono ?_;rintro e w9 ⟨rfl,h9,hg9⟩)
 go_ret
 exact⟨rfl,h9,hg9⟩
theorem qf8 (p:Nat) (x:Int) (k:Nat) (w:World) (hx:qar w p x k):
  Calls prog 154 #[.pointer (some ⟨p,0,none⟩)] w fun e w'=>e=.returned (.int .i64 x.sign)∧w'=w:=by
 obtain⟨v,hb,A,c,l,rfl,-,-,-,hdl⟩:=hx;have hpos:l.length=0↔x=0:=List.length_eq_zero_iff.trans ((hdl.qci (by omega)).trans (by omega));have c0:=hb.c0;have c1:=hb.c1;clear hb hdl;rcases Int.lt_trichotomy x 0 with h|h|h
 ·have h1: ¬(l.length:Int)=0:=by omega
  have e:decide (x<0)=true:=decide_eq_true h;rw[e]at c0;have hs:x.sign= -1:=Int.sign_eq_neg_one_of_neg h;clear hpos e;go_enter func154,ntmps154
  go_wp2_with fail
  go_ret
  exact⟨by rw[hs];rfl,rfl⟩
 ·have h1:(l.length:Int)=0:=by omega
  have hs:x.sign=0:=by rw[h];rfl
  clear hpos c0;go_enter func154,ntmps154
  go_wp2_with fail
  go_ret
  exact⟨by rw[hs];rfl,rfl⟩
 ·have h1: ¬(l.length:Int)=0:=by omega
  have e:decide (x<0)=false:=decide_eq_false (by omega);rw[e]at c0;have hs:x.sign=1:=Int.sign_eq_one_of_pos h;clear hpos e;go_enter func154,ntmps154
  go_wp2_with fail
  go_ret
  exact⟨by rw[hs];rfl,rfl⟩
theorem qp (p:Nat) (x:Int) (k t:Nat) (w:World) (hx:qar w p x k) (hk:k≤100000000) (ht:qcq x.natAbs t) (hT:T32 w):
  Calls prog 166 #[.pointer (some ⟨p,0,none⟩)] w fun e w'=>e=.returned (.int .u64 (t:Int))∧w'=w:=by
 obtain⟨v,hb,A,c,l,rfl,-,hl,hr,hdl⟩:=hx;have CL:=qh (qoj A c l x.natAbs t w (by omega) hr hdl ht hT);have c1:=hb.c1;clear hb hr hdl hT ht;go_enter func166,ntmps166
 go_wp2_with (go_at_call 185;refine CL.out.mono ?_;rintro e w9 ⟨rfl,rfl⟩)
 go_ret
 exact⟨rfl,rfl⟩
theorem qgr (p:Nat) (x:Int) (k:Nat) (w:World) (hx:qar w p x k) (hk:k≤100000000):
  Calls prog 149 #[.pointer (some ⟨p,0,none⟩)] w fun e w'=> ∃t:Nat,e=.returned (.int .i64 (t:Int))∧qbt x.natAbs t∧t≤32*k∧w'=w:=by
 obtain⟨v,hb,A,c,l,rfl,-,hl,hr,hdl⟩:=hx;have CL:=qh (qhM A c l x.natAbs w (by omega) hr hdl);have c1:=hb.c1;clear hb hr hdl;go_enter func149,ntmps149
 go_wp2_with (go_at_call 181;refine CL.out.mono ?_;rintro e w9 ⟨t,rfl,h1,h2,rfl⟩)
 go_ret
 exact⟨t,rfl,h1,by omega,rfl⟩
end
section
set_option maxHeartbeats 1600000
set_option maxRecDepth 100000
theorem qog (x:Int) (s:Nat):(decide (x<0)&&decide (0<x.natAbs*2 ^ s))=decide (x*2 ^ s<0):=by
 have hp:(0:Int)<2 ^ s:=Int.pow_pos (by omega);rw[Bool.eq_iff_iff];simp only[Bool.and_eq_true,decide_eq_true_eq];constructor
 ·rintro⟨h,-⟩
  exact Int.mul_neg_of_neg_of_pos h hp
 ·intro h
  have hx:x<0:=by
   rcases Int.lt_or_le x 0 with h1|h1
   ·exact h1
   ·have:=Int.mul_nonneg h1 (Int.le_of_lt hp);omega
  exact⟨hx,Nat.mul_pos (by omega) (Nat.pow_pos (by omega))⟩
theorem qph (x:Int) (s:Nat):(x*2 ^ s).natAbs=x.natAbs*2 ^ s:=by
 rw[Int.natAbs_mul,Int.natAbs_pow];rfl
theorem qi2 (p q:Nat) (b0:Bool) (u:Value) (x:Int) (k s:Nat) (w:World) (hx:qar w p x k) (hk:k≤100000000) (hs:s≤1000000000) (hq:qaX w q b0 u) (hu: ∀x:Int,u≠ .int .u32 x):
  Calls prog 110 #[.pointer (some ⟨q,0,none⟩),.pointer (some ⟨p,0,none⟩),.int .u64 (s:Int)] w fun e w'=>e=.returned (.pointer (some ⟨q,0,none⟩))∧qar w' q (x*2 ^ s) (k+s / 32+1)∧w.grownBy w' (some q):=by
 obtain⟨v,hb,A,c,l,rfl,hlc,hl,hr,hdl⟩:=hx
 have C1:Hid (∀W,Kept w W→Calls prog 153 #[.slice A l.length c,.int .u64 (s:Int)] W fun e w'=> ∃v,e=.returned v∧qb7 w' v (x.natAbs*2 ^ s) (k+s / 32+1)∧Kept W w'):=fun W h=>
  (qmY A c l x.natAbs s W (by omega) hs (hr.kept h) hdl).mono fun e w' ⟨v,h1,h2,h3⟩=>⟨v,h1,h2.more (by omega),h3⟩
 have C2:Hid (∀W v,Kept w W→qb7 W v (x.natAbs*2 ^ s) (k+s / 32+1)→Calls prog 152 #[.pointer (some ⟨q,0,none⟩),.bool (decide (x<0)),v] W fun e w'=>e=.returned (.pointer (some ⟨q,0,none⟩))∧qar w' q (x*2 ^ s) (k+s / 32+1)∧W.grownBy w' (some q)):=fun W v h hd=>
  qbY q b0 _ u v (x*2 ^ s) (x.natAbs*2 ^ s) _ W (hq.kept h) hu hd (qph x s) (qog x s)
 obtain⟨b,hbv⟩: ∃b,b=decide (x<0):=⟨_,rfl⟩
 rw[←hbv]at hb C2;have SK:Hid (∀W,Kept w W→W.cell? ⟨p,0,none⟩=some (.bool b)∧W.cell? ⟨p,1,none⟩=some (.slice A l.length c)):=fun W h=>⟨(hb.kept h).c0,(hb.kept h).c1⟩
 have HS:=qh (SK.out w (Below.refl _ _));clear hbv hb hr hdl hq hu;go_enter func110,ntmps110
 go_wp2_with fail
 refine qac (fun W=>W.cell? ⟨p,0,none⟩=some (.bool b)∧W.cell? ⟨p,1,none⟩=some (.slice A l.length c)) [11,12] (by kernel_rfl) ?_ (fun hHeld=>?_)
 ·first|exact HS.out|assumption
 refine wS 0 7 ?_;refine wS 1 8 ?_;refine wS 2 9 ?_;refine wS 3 10 ?_;refine wS 4 11 ?_;refine wS 5 12 ?_;refine wS 6 13 ?_;refine wS 7 14 ?_;refine wS 8 15 ?_;refine wS 9 16 ?_;refine oS 10 fun K hK=>?_;go_simp;(refine(C1.out _ ((Below.refl _ _).drew)).mono ?_;rintro e w8 ⟨v8,rfl,hd8,hk8⟩;have K8:Kept w w8:=((Below.refl _ w).drew).trans hk8;have hS8:=SK.out w8 K8)
 refine hK.out _ _ ?_ (fun hHeld=>?_)
 ·first|exact HS.out|assumption
 clear hK K;try simp only[Act.put,tdy]
 refine eS 11 fun K hK=>?_;go_simp;(refine(C2.out _ _ K8 hd8).mono ?_;rintro e w9 ⟨rfl,h9,hg9⟩)
 refine hK.out _ _ ?_;clear hK K;try simp only[Act.put,tdy]
 refine eS 12 fun K hK=>?_;go_simp;refine hK.out _ _ ?_;clear hK K;try simp only[Act.put,tdy]
 refine dS ?_ _;go_wp2_with fail
 go_ret
 exact⟨rfl,h9,qba K8 hg9⟩
theorem sign_mul (x y:Int):((decide (x<0) != decide (y<0))&&decide (0<x.natAbs*y.natAbs))=decide (x*y<0):=by
 rw[Bool.eq_iff_iff];simp only[Bool.and_eq_true,decide_eq_true_eq,bne_iff_ne,ne_eq];rcases Int.lt_trichotomy x 0 with hx|hx|hx
 ·rcases Int.lt_trichotomy y 0 with hy|hy|hy
  ·have:=Int.mul_pos_of_neg_of_neg hx hy
   simp[hx,hy];omega
  ·subst hy;simp
  ·have:=Int.mul_neg_of_neg_of_pos hx hy
   have h1:0<x.natAbs*y.natAbs:=Nat.mul_pos (by omega) (by omega);have h2: ¬y<0:=by omega
   simp only[hx,h2,this,h1];simp
 ·subst hx;simp
 ·rcases Int.lt_trichotomy y 0 with hy|hy|hy
  ·have:=Int.mul_neg_of_pos_of_neg hx hy
   have h1:0<x.natAbs*y.natAbs:=Nat.mul_pos (by omega) (by omega);have h2: ¬x<0:=by omega
   simp only[hy,h2,this,h1];simp
  ·subst hy;simp
  ·have:=Int.mul_pos hx hy
   have h1: ¬x<0:=by omega
   have h2: ¬y<0:=by omega
   simp[h1,h2];omega
theorem qoa (p r q:Nat) (b0:Bool) (u:Value) (x y:Int) (k j:Nat) (w:World) (hx:qar w p x k) (hy:qar w r y j) (hk:k≤100000000) (hj:j≤100000000) (hq:qaX w q b0 u) (hu: ∀x:Int,u≠ .int .u32 x):
  Calls prog 139 #[.pointer (some ⟨q,0,none⟩),.pointer (some ⟨p,0,none⟩),.pointer (some ⟨r,0,none⟩)] w fun e w'=>e=.returned (.pointer (some ⟨q,0,none⟩))∧qar w' q (x*y) (k+j)∧w.grownBy w' (some q):=by
 obtain⟨v,hb,A,c,l,rfl,hlc,hl,hr,hdl⟩:=hx;obtain⟨v',hb',A',c',l',rfl,hlc',hl',hr',hdl'⟩:=hy
 have C1:Hid (∀W,Kept w W→Calls prog 174 #[.slice A l.length c,.slice A' l'.length c'] W fun e w'=> ∃v,e=.returned v∧qb7 w' v (x.natAbs*y.natAbs) (k+j)∧Kept W w'):=fun W h=>
  (qlv A A' c c' l l' x.natAbs y.natAbs W (by omega) (by omega) (hr.kept h) (hr'.kept h) hdl hdl').mono fun e w' ⟨v,h1,h2,h3⟩=>⟨v,h1,h2.more (by omega),h3⟩
 have C2:Hid (∀W v,Kept w W→qb7 W v (x.natAbs*y.natAbs) (k+j)→Calls prog 152 #[.pointer (some ⟨q,0,none⟩),.bool (decide (x<0) != decide (y<0)),v] W fun e w'=>e=.returned (.pointer (some ⟨q,0,none⟩))∧qar w' q (x*y) (k+j)∧W.grownBy w' (some q)):=fun W v h hd=>
  qbY q b0 _ u v (x*y) (x.natAbs*y.natAbs) _ W (hq.kept h) hu hd (Int.natAbs_mul x y) (sign_mul x y)
 obtain⟨b,hbv⟩: ∃b,b=decide (x<0):=⟨_,rfl⟩
 obtain⟨b',hbv'⟩: ∃b,b=decide (y<0):=⟨_,rfl⟩
 rw[←hbv]at hb C2;rw[←hbv']at hb' C2;have SK:Hid (∀W,Kept w W→W.cell? ⟨p,0,none⟩=some (.bool b)∧W.cell? ⟨p,1,none⟩=some (.slice A l.length c)∧W.cell? ⟨r,0,none⟩=some (.bool b')∧W.cell? ⟨r,1,none⟩=some (.slice A' l'.length c')):=fun W h=>⟨(hb.kept h).c0,(hb.kept h).c1,(hb'.kept h).c0,(hb'.kept h).c1⟩
 have HS:=qh (SK.out w (Below.refl _ _));clear hbv hb hr hdl hbv' hb' hr' hdl' hq hu;go_enter func139,ntmps139
 go_wp2_with fail
 refine qac (fun W=>W.cell? ⟨p,0,none⟩=some (.bool b)∧W.cell? ⟨p,1,none⟩=some (.slice A l.length c)∧W.cell? ⟨r,0,none⟩=some (.bool b')∧W.cell? ⟨r,1,none⟩=some (.slice A' l'.length c')) [19,20] (by kernel_rfl) ?_ (fun hHeld=>?_)
 ·first|exact HS.out|assumption
 refine wS 0 7 ?_;refine wS 1 8 ?_;refine wS 2 9 ?_;refine wS 3 10 ?_;refine wS 4 11 ?_;refine wS 5 12 ?_;refine wS 6 13 ?_;refine wS 7 14 ?_;refine wS 8 15 ?_;refine wS 9 16 ?_;refine wS 10 17 ?_;refine wS 11 18 ?_;refine wS 12 19 ?_;refine wS 13 20 ?_;refine wS 14 21 ?_;refine wS 15 22 ?_;refine wS 16 23 ?_;refine wS 17 24 ?_;refine oS 18 fun K hK=>?_;go_simp;(refine(C1.out _ ((Below.refl _ _).drew)).mono ?_;rintro e w8 ⟨v8,rfl,hd8,hk8⟩;have K8:Kept w w8:=((Below.refl _ w).drew).trans hk8;have hS8:=SK.out w8 K8)
 refine hK.out _ _ ?_ (fun hHeld=>?_)
 ·first|exact HS.out|assumption
 clear hK K;try simp only[Act.put,tdy]
 refine eS 19 fun K hK=>?_;go_simp;(refine(C2.out _ _ K8 hd8).mono ?_;rintro e w9 ⟨rfl,h9,hg9⟩)
 refine hK.out _ _ ?_;clear hK K;try simp only[Act.put,tdy]
 refine eS 20 fun K hK=>?_;go_simp;refine hK.out _ _ ?_;clear hK K;try simp only[Act.put,tdy]
 refine dS ?_ _;go_wp2_with fail
 go_ret
 exact⟨rfl,h9,qba K8 hg9⟩
end
def qdt (x y:Int):Int:=if x<y then -1 else if y<x then 1 else 0
theorem qce {x y:Int} (h:x<y):qdt x y= -1:=by unfold qdt;rw[if_pos h]
theorem qco {x y:Int} (h:y<x):qdt x y=1:=by unfold qdt;rw[if_neg (by omega),if_pos h]
theorem qn5 {x y:Int} (hx:x<0) (hy:y<0):qbG y.natAbs x.natAbs=qdt x y:=by
 rcases Int.lt_trichotomy x y with h|h|h
 ·rw [qce h,qcw (by omega)]
 ·subst h;rw[qei];simp[qdt]
 ·rw [qco h,qdd (by omega)]
theorem qoR {x y:Int} (hx:0≤x) (hy:0≤y):qbG x.natAbs y.natAbs=qdt x y:=by
 rcases Int.lt_trichotomy x y with h|h|h
 ·rw [qce h,qcw (by omega)]
 ·subst h;rw[qei];simp[qdt]
 ·rw [qco h,qdd (by omega)]
set_option maxRecDepth 100000 in
set_option maxHeartbeats 1600000 in
theorem qox (p r:Nat) (x y:Int) (k j:Nat) (w:World) (hx:qar w p x k) (hy:qar w r y j) (hk:k≤100000000) (hj:j≤100000000):
  Calls prog 111 #[.pointer (some ⟨p,0,none⟩),.pointer (some ⟨r,0,none⟩)] w fun e w'=>e=.returned (.int .i64 (qdt x y))∧Kept w w':=by
 have S1:=qh (qf8 p x k w hx);have S2:=qh (qf8 r y j w hy);obtain⟨v,hb,A,c,l,rfl,hlc,hl,hr,hdl⟩:=hx;obtain⟨v',hb',A',c',l',rfl,hlc',hl',hr',hdl'⟩:=hy;by_cases hs:x.sign=y.sign
 ·by_cases hn:x<0
  ·skip
   have hyn:y<0:=by
    rw[Int.sign_eq_neg_one_of_neg hn]at hs;exact Int.sign_eq_neg_one_iff_neg.1 hs.symm
   have CL:Hid (∀W,Kept w W→Calls prog 155 #[.slice A' l'.length c',.slice A l.length c] W fun e w'=>e=.returned (.int .i64 (qdt x y))∧Kept W w'):=fun W h=>
    (qhd A' A c' c l' l y.natAbs x.natAbs W (by omega) (by omega) (hr'.kept h) (hr.kept h) hdl' hdl).mono fun e w' ⟨h1,m,h2⟩=>⟨by rw[h1,qn5 hn hyn],by rw[h2];exact qaC (Below.refl _ _) m⟩
   have e0:decide (x<0)=true:=decide_eq_true hn;rw[e0]at hb;rw[←hs]at S2;have SK:Hid (∀W,Kept w W→W.cell? ⟨p,0,none⟩=some (.bool true)∧W.cell? ⟨p,1,none⟩=some (.slice A l.length c)∧W.cell? ⟨r,1,none⟩=some (.slice A' l'.length c')):=fun W h=>⟨(hb.kept h).c0,(hb.kept h).c1,(hb'.kept h).c1⟩
   have HS:=qh (SK.out w (Below.refl _ _));have c0:=hb.c0;obtain⟨s,hsv⟩: ∃s,s=x.sign:=⟨_,rfl⟩
   rw[←hsv]at S1 S2;clear hb hb' hr hr' hdl hdl' e0 hs hsv;go_enter func111,ntmps111
   go_wp2_with (first
    |(go_at_call 154;(with_reducible refine S1.out.mono ?_);rintro e w1 ⟨rfl,hw1⟩;subst hw1)
    |(go_at_call 154;(with_reducible refine S2.out.mono ?_);rintro e w1 ⟨rfl,hw1⟩;subst hw1))
   refine qbg (fun W=>W.cell? ⟨p,0,none⟩=some (.bool true)∧W.cell? ⟨p,1,none⟩=some (.slice A l.length c)∧W.cell? ⟨r,1,none⟩=some (.slice A' l'.length c')) 9 (by kernel_rfl) ?_ (fun hHeld=>?_)
   ·first|exact HS.out|assumption
   refine wL 0 21 ?_;refine wL 1 22 ?_;refine wL 2 23 ?_;refine wL 3 24 ?_;refine wL 4 25 ?_;refine wL 5 26 ?_;refine wL 6 27 ?_;refine wL 7 28 ?_;refine oL 8 fun K hK=>?_;go_simp;(refine(CL.out _ ((Below.refl _ _).drew)).mono ?_;rintro e w8 ⟨rfl,hk8⟩;have K8:Kept w1 w8:=((Below.refl _ w1).drew).trans hk8;have hS8:=SK.out w8 K8)
   refine hK.out _ _ ?_ (fun hHeld=>?_)
   ·first|exact HS.out|assumption
   clear hK K;try simp only[Act.put,tdy]
   refine eL fun K hK=>?_;go_simp;refine hK.out _ _ ?_;clear hK K;try simp only[Act.put,tdy]
   refine dL ?_ _;go_wp2_with fail
   go_ret
   exact⟨rfl,K8⟩
  ·skip
   have hyn:0≤y:=by
    rcases Int.lt_or_le y 0 with h|h
    ·rw [Int.sign_eq_neg_one_of_neg h]at hs
     exact absurd (Int.sign_eq_neg_one_iff_neg.1 hs) hn
    ·exact h
   have CL:Hid (∀W,Kept w W→Calls prog 155 #[.slice A l.length c,.slice A' l'.length c'] W fun e w'=>e=.returned (.int .i64 (qdt x y))∧Kept W w'):=fun W h=>
    (qhd A A' c c' l l' x.natAbs y.natAbs W (by omega) (by omega) (hr.kept h) (hr'.kept h) hdl hdl').mono fun e w' ⟨h1,m,h2⟩=>⟨by rw[h1,qoR (by omega) hyn],by rw[h2];exact qaC (Below.refl _ _) m⟩
   have e0:decide (x<0)=false:=decide_eq_false hn;rw[e0]at hb;rw[←hs]at S2;have SK:Hid (∀W,Kept w W→W.cell? ⟨p,0,none⟩=some (.bool false)∧W.cell? ⟨p,1,none⟩=some (.slice A l.length c)∧W.cell? ⟨r,1,none⟩=some (.slice A' l'.length c')):=fun W h=>⟨(hb.kept h).c0,(hb.kept h).c1,(hb'.kept h).c1⟩
   have HS:=qh (SK.out w (Below.refl _ _));have c0:=hb.c0;obtain⟨s,hsv⟩: ∃s,s=x.sign:=⟨_,rfl⟩
   rw[←hsv]at S1 S2;clear hb hb' hr hr' hdl hdl' e0 hs hsv;go_enter func111,ntmps111
   go_wp2_with (first
    |(go_at_call 154;(with_reducible refine S1.out.mono ?_);rintro e w1 ⟨rfl,hw1⟩;subst hw1)
    |(go_at_call 154;(with_reducible refine S2.out.mono ?_);rintro e w1 ⟨rfl,hw1⟩;subst hw1))
   refine qbg (fun W=>W.cell? ⟨p,0,none⟩=some (.bool false)∧W.cell? ⟨p,1,none⟩=some (.slice A l.length c)∧W.cell? ⟨r,1,none⟩=some (.slice A' l'.length c')) 9 (by kernel_rfl) ?_ (fun hHeld=>?_)
   ·first|exact HS.out|assumption
   refine wL 0 30 ?_;refine wL 1 31 ?_;refine wL 2 32 ?_;refine wL 3 33 ?_;refine wL 4 34 ?_;refine wL 5 35 ?_;refine wL 6 36 ?_;refine wL 7 37 ?_;refine oL 8 fun K hK=>?_;go_simp;(refine(CL.out _ ((Below.refl _ _).drew)).mono ?_;rintro e w8 ⟨rfl,hk8⟩;have K8:Kept w1 w8:=((Below.refl _ w1).drew).trans hk8;have hS8:=SK.out w8 K8)
   refine hK.out _ _ ?_ (fun hHeld=>?_)
   ·first|exact HS.out|assumption
   clear hK K;try simp only[Act.put,tdy]
   refine eL fun K hK=>?_;go_simp;refine hK.out _ _ ?_;clear hK K;try simp only[Act.put,tdy]
   refine dL ?_ _;go_wp2_with fail
   go_ret
   exact⟨rfl,K8⟩
 ·rcases(show x.sign<y.sign∨y.sign<x.sign by omega)with h|h
  ·skip
   clear hb hb' hr hr' hdl hdl';have h1:x.sign<y.sign:=by omega
   have hc:=qh (show qdt x y= -1 by
    apply qce;rcases Int.lt_trichotomy x 0 with a|a|a<;>rcases Int.lt_trichotomy y 0 with b|b|b<;>first|omega|(simp only[Int.sign_eq_neg_one_of_neg,Int.sign_eq_one_of_pos,a,b,Int.sign_zero]at h;omega))
   obtain⟨s,hsv⟩: ∃s,s=x.sign:=⟨_,rfl⟩
   obtain⟨t,htv⟩: ∃s,s=y.sign:=⟨_,rfl⟩
   rw[←hsv]at S1 hs h1;rw[←htv]at S2 hs h1;clear hsv htv h;go_enter func111,ntmps111
   go_wp2_with (first
    |(go_at_call 154;(with_reducible refine S1.out.mono ?_);rintro e w1 ⟨rfl,hw1⟩;subst hw1)
    |(go_at_call 154;(with_reducible refine S2.out.mono ?_);rintro e w1 ⟨rfl,hw1⟩;subst hw1))
   go_ret
   exact⟨qaW hc.out.symm,Below.refl _ _⟩
  ·skip
   clear hb hb' hr hr' hdl hdl';have h1: ¬x.sign<y.sign:=by omega
   have hc:=qh (show qdt x y=1 by
    apply qco;rcases Int.lt_trichotomy x 0 with a|a|a<;>rcases Int.lt_trichotomy y 0 with b|b|b<;>first|omega|(simp only[Int.sign_eq_neg_one_of_neg,Int.sign_eq_one_of_pos,a,b,Int.sign_zero]at h;omega))
   obtain⟨s,hsv⟩: ∃s,s=x.sign:=⟨_,rfl⟩
   obtain⟨t,htv⟩: ∃s,s=y.sign:=⟨_,rfl⟩
   rw[←hsv]at S1 hs h1;rw[←htv]at S2 hs h1;clear hsv htv h;go_enter func111,ntmps111
   go_wp2_with (first
    |(go_at_call 154;(with_reducible refine S1.out.mono ?_);rintro e w1 ⟨rfl,hw1⟩;subst hw1)
    |(go_at_call 154;(with_reducible refine S2.out.mono ?_);rintro e w1 ⟨rfl,hw1⟩;subst hw1))
   go_ret
   exact⟨qaW hc.out.symm,Below.refl _ _⟩
def qaE (a b:DyD):DyD×Int:=
 if a.num=0 then(b,0)else if b.num=0 then(a,0)else
 if 131080<max a.e b.e-min a.e b.e then(zD,4)else
 qbb (a.num*2 ^ (a.e-min a.e b.e).toNat+b.num*2 ^ (b.e-min a.e b.e).toNat) (min a.e b.e)
def negS (d:DyD):DyD:=if d.num=0 then zD else⟨!d.neg,d.n,d.e⟩
def qdI (a b:DyD):DyD×Int:=qaE a (negS b)
def mulS (a b:DyD):DyD×Int:=qbb (a.num*b.num) (a.e+b.e)
def qdk (a b:DyD):Int:=qdt (a.num*2 ^ (a.e-min a.e b.e).toNat) (b.num*2 ^ (b.e-min a.e b.e).toNat)
theorem qnk (a b:DyD) (ha:qae a=true) (hb:qae b=true):qaE a b=qaE b a:=by
 unfold qaE;by_cases h1:a.num=0<;>by_cases h2:b.num=0
 ·rw [if_pos h1,if_pos h2,(qaj ha).2.1 h1,(qaj hb).2.1 h2]
 ·rw [if_pos h1,if_neg h2,if_pos h1]
 ·rw [if_neg h1,if_pos h2,if_pos h2]
 ·rw [if_neg h1,if_neg h2,if_neg h2,if_neg h1,Int.max_comm,Int.min_comm,Int.add_comm (a.num*_)]
theorem qfB {a b:DyD} (ha:qae a=true) (hb:qae b=true):qae (qaE a b).1=true:=by
 unfold qaE;split
 ·exact hb
 ·split
  ·exact ha
  ·split
   ·exact qdF
   ·exact qet _ _
theorem qdH (a b:DyD):(qaE a b).2=0∨qaE a b=(zD,4):=by
 unfold qaE;split
 ·exact .inl rfl
 ·split
  ·exact .inl rfl
  ·split
   ·exact .inr rfl
   ·exact qjc _ _
theorem qdf (a b:DyD):qae (mulS a b).1=true:=qet _ _
theorem qgY (a b:DyD):(mulS a b).2=0∨mulS a b=(zD,4):=qjc _ _
theorem qpn {d:DyD} (h:qae d=true):negS d=mkD (-d.num) d.e:=by
 unfold negS;split
 ·rename_i h0
  rw[h0,(qaj h).2.1 h0];rfl
 ·rename_i h0
  have h1:=qcu h;have h2:=congrArg DyD.n (qif h);refine DyD.ext' ?_ ?_ rfl
  ·show(!d.neg)=decide (-d.num<0)
   rw[h1,Bool.eq_iff_iff];simp only[Bool.not_eq_true',decide_eq_false_iff_not,decide_eq_true_eq];omega
  ·show d.n=qa1 (-d.num).natAbs
   rw[Int.natAbs_neg];exact h2.symm
theorem qfS {d:DyD} (h:qae d=true):qae (negS d)=true:=by
 by_cases h0:d.num=0
 ·unfold negS;rw[if_pos h0];exact qdF
 ·rw [qpn h]
  obtain⟨h1,-,h3,h4,h5⟩:=qaj h;exact qh4 (by rw[Int.natAbs_neg];exact h3 h0) (by rw[Int.natAbs_neg];exact h1) h4 h5
theorem qiD {a b:DyD} (ha:qae a=true) (hb:qae b=true):qae (qdI a b).1=true:=qfB ha (qfS hb)
theorem qhh (a b:DyD):(qdI a b).2=0∨qdI a b=(zD,4):=qdH _ _
theorem qdO {z:Int} (h:0<z) (n:Nat):0<z*2 ^ n:=Int.mul_pos h (Int.pow_pos (by omega))
theorem qc0 {z:Int} (h:z<0) (n:Nat):z*2 ^ n<0:=Int.mul_neg_of_neg_of_pos h (Int.pow_pos (by omega))
theorem qhX {a b:DyD} (h:a.num.sign≠b.num.sign∨a.num.sign=0):qdk a b=(a.num.sign-b.num.sign).sign:=by
 unfold qdk;rcases Int.lt_trichotomy a.num 0 with h1|h1|h1<;>rcases Int.lt_trichotomy b.num 0 with h2|h2|h2
 ·rw [Int.sign_eq_neg_one_of_neg h1,Int.sign_eq_neg_one_of_neg h2]at h;omega
 ·rw [h2,Int.zero_mul,qce (qc0 h1 _),Int.sign_eq_neg_one_of_neg h1];rfl
 ·rw [qce (Int.lt_trans (qc0 h1 _) (qdO h2 _)),Int.sign_eq_neg_one_of_neg h1,Int.sign_eq_one_of_pos h2];rfl
 ·rw [h1,Int.zero_mul,qco (qc0 h2 _),Int.sign_eq_neg_one_of_neg h2];rfl
 ·rw [h1,h2,Int.zero_mul,Int.zero_mul];rfl
 ·rw [h1,Int.zero_mul,qce (qdO h2 _),Int.sign_eq_one_of_pos h2];rfl
 ·rw [qco (Int.lt_trans (qc0 h2 _) (qdO h1 _)),Int.sign_eq_one_of_pos h1,Int.sign_eq_neg_one_of_neg h2];rfl
 ·rw [h2,Int.zero_mul,qco (qdO h1 _),Int.sign_eq_one_of_pos h1];rfl
 ·rw [Int.sign_eq_one_of_pos h1,Int.sign_eq_one_of_pos h2]at h;omega
theorem qpC {x y p q:Nat} {e f k:Int} (hx:qbt x p) (hy:qbt y q) (hy0:y≠0) (he:k≤e) (hf:k≤f) (h:(p:Int)+e<q+f):x*2 ^ (e-k).toNat<y*2 ^ (f-k).toNat:=by
 have hq:q≠0:=by rintro rfl;have:=hy.1;simp at this;exact hy0 this
 have h1:x*2 ^ (e-k).toNat<2 ^ p*2 ^ (e-k).toNat:=Nat.mul_lt_mul_of_pos_right hx.1 (Nat.pow_pos (by omega));have h2:2 ^ (q-1)*2 ^ (f-k).toNat≤y*2 ^ (f-k).toNat:=Nat.mul_le_mul_right _ (hy.2 hq);rw[←Nat.pow_add]at h1 h2;have h3:2 ^ (p+(e-k).toNat)≤2 ^ (q-1+(f-k).toNat):=Nat.pow_le_pow_right (by omega) (by omega);omega
theorem qel (z:Int) (n:Nat) (h:0≤z):z*2 ^ n=((z.natAbs*2 ^ n:Nat):Int):=by
 rw[Int.natCast_mul,Int.natCast_pow,Int.natAbs_of_nonneg h];rfl
theorem qcE (z:Int) (n:Nat) (h:z≤0):z*2 ^ n= -((z.natAbs*2 ^ n:Nat):Int):=by
 have:z= -(z.natAbs:Int):=by omega
 rw[Int.natCast_mul,Int.natCast_pow];conv=>lhs;rw[this]
 rw[Int.neg_mul];rfl
theorem qje {a b:DyD} {p q:Nat} (h:a.num.sign=b.num.sign) (h0:a.num≠0) (hp:qbt a.num.natAbs p) (hq:qbt b.num.natAbs q) (hne:(p:Int)+a.e≠q+b.e):qdk a b=a.num.sign*((p+a.e:Int)-(q+b.e)).sign:=by
 unfold qdk
 have hb0:b.num≠0:=by
  intro e;rw[e]at h;exact h0 (Int.sign_eq_zero_iff_zero.1 h)
 have m1:min a.e b.e≤a.e:=Int.min_le_left ..;have m2:min a.e b.e≤b.e:=Int.min_le_right ..;rcases Int.lt_or_gt_of_ne hne with hlt|hgt
 ·have h1:=qpC hp hq (by omega) m1 m2 hlt
  rw[Int.sign_eq_neg_one_of_neg (show(p+a.e:Int)-(q+b.e)<0 by omega)];rcases Int.lt_trichotomy a.num 0 with h2|h2|h2
  ·have h3:b.num<0:=by rw[Int.sign_eq_neg_one_of_neg h2]at h;exact Int.sign_eq_neg_one_iff_neg.1 h.symm
   rw[qcE _ _ (Int.le_of_lt h2),qcE _ _ (Int.le_of_lt h3),qco (by omega),Int.sign_eq_neg_one_of_neg h2];rfl
  ·exact absurd h2 h0
  ·have h3:0<b.num:=by rw[Int.sign_eq_one_of_pos h2]at h;exact Int.sign_eq_one_iff_pos.1 h.symm
   rw[qel _ _ (Int.le_of_lt h2),qel _ _ (Int.le_of_lt h3),qce (by omega),Int.sign_eq_one_of_pos h2];rfl
 ·have h1:=qpC hq hp (by omega) m2 m1 hgt
  rw[Int.sign_eq_one_of_pos (show 0<(p+a.e:Int)-(q+b.e) by omega)];rcases Int.lt_trichotomy a.num 0 with h2|h2|h2
  ·have h3:b.num<0:=by rw[Int.sign_eq_neg_one_of_neg h2]at h;exact Int.sign_eq_neg_one_iff_neg.1 h.symm
   rw[qcE _ _ (Int.le_of_lt h2),qcE _ _ (Int.le_of_lt h3),qce (by omega),Int.sign_eq_neg_one_of_neg h2];rfl
  ·exact absurd h2 h0
  ·have h3:0<b.num:=by rw[Int.sign_eq_one_of_pos h2]at h;exact Int.sign_eq_one_iff_pos.1 h.symm
   rw[qel _ _ (Int.le_of_lt h2),qel _ _ (Int.le_of_lt h3),qco (by omega),Int.sign_eq_one_of_pos h2];rfl
theorem qgb (x:Int):qdt x x=0:=by unfold qdt;rw[if_neg (by omega),if_neg (by omega)]
theorem qm2 (x y:Int):qdt y x= -qdt x y:=by
 rcases Int.lt_trichotomy x y with h|h|h
 ·rw [qce h,qco h];rfl
 ·subst h;rw[qgb];rfl
 ·rw [qco h,qce h]
theorem qim (a b:DyD):qdk b a= -qdk a b:=by
 unfold qdk;rw[Int.min_comm,qm2]
def qfR (n b:Nat):Nat:=n / 2 ^ b+(if 2 ^ b<2*(n % 2 ^ b)∨(2 ^ b=2*(n % 2 ^ b)∧n / 2 ^ b % 2=1)then 1 else 0)
theorem qoP (neg:Bool) (n:Nat):Ieee.Toward.cut .even neg n 0=n:=by
 unfold Ieee.Toward.cut;simp[Nat.mod_one]
theorem qmv {n p:Nat} (h:qbt n p) (h0:n≠0):p=n.log2+1:=by
 have hp:p≠0:=by rintro rfl;have:=h.1;simp at this;exact h0 this
 refine h.uniq ⟨Nat.lt_log2_self,fun _=>?_⟩;rw[Nat.add_sub_cancel];exact Nat.log2_self_le h0
theorem qpd (neg:Bool) (n b:Nat):Ieee.Toward.cut .even neg n b=qfR n b:=by
 unfold Ieee.Toward.cut qfR;simp only[Nat.one_shiftLeft];have hn:n<2 ^ (n.log2+1):=Nat.lt_log2_self;by_cases hb:b≤n.log2+2
 ·rw [Nat.min_eq_left hb]
  congr 1
  by_cases h:2 ^ b<2*(n % 2 ^ b)∨(2 ^ b=2*(n % 2 ^ b)∧n / 2 ^ b % 2=1)
  ·rw [if_pos h]
   have:(decide (2 ^ b<2*(n % 2 ^ b))||(2 ^ b==2*(n % 2 ^ b)&&n / 2 ^ b % 2==1))=true:=by
    simpa only[Bool.or_eq_true,decide_eq_true_eq,Bool.and_eq_true,beq_iff_eq] using h
   rw[this];rfl
  ·rw [if_neg h]
   have:(decide (2 ^ b<2*(n % 2 ^ b))||(2 ^ b==2*(n % 2 ^ b)&&n / 2 ^ b % 2==1))=false:=by
    rw[Bool.eq_false_iff];intro e;exact h (by simpa only[Bool.or_eq_true,decide_eq_true_eq,Bool.and_eq_true,beq_iff_eq] using e)
   rw[this];rfl
 ·rw [Nat.min_eq_right (by omega)]
  have h1:2 ^ (n.log2+2)=2*2 ^ (n.log2+1):=by rw[Nat.pow_succ 2 (n.log2+1)];omega
  have h2:2 ^ (n.log2+2)≤2 ^ b:=Nat.pow_le_pow_right (by omega) (by omega);rw[Nat.div_eq_of_lt (show n<2 ^ (n.log2+2) by omega),Nat.mod_eq_of_lt (show n<2 ^ (n.log2+2) by omega),Nat.div_eq_of_lt (show n<2 ^ b by omega),Nat.mod_eq_of_lt (show n<2 ^ b by omega),if_neg (by omega)]
  have:(decide (2 ^ (n.log2+2)<2*n)||(2 ^ (n.log2+2)==2*n&&0 % 2==1))=false:=by
   simp;omega
  rw[this];rfl
def qam (p:Nat) (e:Int):Int:=max ((p:Int)-1+e-52) (-1074)
def qaS :Nat:=9218868437227405312
def qa8 (n:Nat) (e:Int) (q:Int):Nat:=if q≤e then n*2 ^ (e-q).toNat else qfR n (q-e).toNat
def qaU (d:DyD):Nat:=Ieee.double.nearest d.neg d.num.natAbs d.e
theorem qnK :Ieee.double.leastPlace= -1074:=by decide
theorem qeq :Ieee.double.infRung=qaS:=by decide
theorem ql8 :Ieee.double.binade=4503599627370496:=by decide
theorem qff (neg:Bool) {n p:Nat} (e:Int) (h0:n≠0) (hp:qbt n p):
  Ieee.double.nearest neg n e=Ieee.double.word neg (min ((qam p e+1074).toNat * 4503599627370496+qa8 n e (qam p e)) qaS):=by
 unfold Ieee.Format.nearest;rw[if_neg h0];simp only[qnK,qeq,ql8]
 have h1:max (e+(n.log2:Int)-(Ieee.double.fractionBits:Int)) (-1074)=qam p e:=by
  unfold qam;rw[qmv hp h0,show(Ieee.double.fractionBits:Int)=52 from rfl];congr 1;omega
 rw[h1]
 have h2:Ieee.Toward.cut .even neg (n <<< (e-qam p e).toNat) (qam p e-e).toNat=qa8 n e (qam p e):=by
  unfold qa8;rw[Nat.shiftLeft_eq];split
  ·rename_i h
   rw[show(qam p e-e).toNat=0 by omega,qoP]
  ·rename_i h
   rw[show(e-qam p e).toNat=0 by omega,Nat.pow_zero,Nat.mul_one,qpd]
 rw[h2,show qam p e- -1074=qam p e+1074 by omega]
theorem qg4 {d:DyD} {p:Nat} (h0:d.num≠0) (hp:qbt d.num.natAbs p):qaU d=Ieee.double.word d.neg (min ((qam p d.e+1074).toNat * 4503599627370496+qa8 d.num.natAbs d.e (qam p d.e)) qaS):=qff d.neg d.e (by omega) hp
theorem qo8 {n b k:Nat} (h:n<2 ^ (b+k)):qfR n b≤2 ^ k:=by
 unfold qfR
 have h1:n / 2 ^ b<2 ^ k:=by
  rw[Nat.div_lt_iff_lt_mul (Nat.pow_pos (by omega)),←Nat.pow_add,Nat.add_comm];exact h
 split<;>omega
theorem qjS {n p:Nat} (e:Int) (hp:qbt n p):qa8 n e (qam p e)≤9007199254740992:=by
 unfold qa8;have hl:qam p e=max ((p:Int)-1+e-52) (-1074):=rfl;split
 ·rename_i h
  have h1:n*2 ^ (e-qam p e).toNat<2 ^ p*2 ^ (e-qam p e).toNat:=Nat.mul_lt_mul_of_pos_right hp.1 (Nat.pow_pos (by omega));rw[←Nat.pow_add]at h1;have h2:2 ^ (p+(e-qam p e).toNat)≤2 ^ 53:=Nat.pow_le_pow_right (by omega) (by omega);omega
 ·rename_i h
  have h1:n<2 ^ ((qam p e-e).toNat+53):=Nat.lt_of_lt_of_le hp.1 (Nat.pow_le_pow_right (by omega) (by omega));exact qo8 h1
theorem qjQ {n p:Nat} (e:Int) (h0:n≠0) (hp:qbt n p) (hq: -1074<qam p e):4503599627370496≤qa8 n e (qam p e):=by
 have hl:qam p e=(p:Int)-1+e-52:=by
  have:qam p e=max ((p:Int)-1+e-52) (-1074):=rfl;omega
 have hp0:p≠0:=by rintro rfl;have:=hp.1;simp at this;exact h0 this
 have h3:=hp.2 hp0;unfold qa8;split
 ·rename_i h
  have h1:2 ^ (p-1)*2 ^ (e-qam p e).toNat≤n*2 ^ (e-qam p e).toNat:=Nat.mul_le_mul_right _ h3;rw[←Nat.pow_add,show p-1+(e-qam p e).toNat=52 by omega]at h1;exact h1
 ·rename_i h
  have h1:2 ^ (p-1) / 2 ^ (qam p e-e).toNat≤n / 2 ^ (qam p e-e).toNat:=Nat.div_le_div_right h3;rw[Nat.pow_div (by omega) (by omega),show p-1-(qam p e-e).toNat=52 by omega]at h1;unfold qfR;exact Nat.le_trans h1 (Nat.le_add_right _ _)
theorem qh6 {d:DyD} {p:Nat} (h0:d.num≠0) (hp:qbt d.num.natAbs p) (h:(1024:Int)≤(p:Int)-1+d.e):qaU d=Ieee.double.word d.neg qaS:=by
 rw[qg4 h0 hp];have hl:qam p d.e=max ((p:Int)-1+d.e-52) (-1074):=rfl;have h1:=qjQ d.e (show d.num.natAbs≠0 by omega) hp (by omega);congr 1
 apply Nat.min_eq_right;have h2:2046*4503599627370496≤(qam p d.e+1074).toNat * 4503599627370496:=Nat.mul_le_mul_right _ (by omega);unfold qaS;omega
def qaJ (m:Nat) (q:Int):Nat:=min ((q+1074).toNat * 4503599627370496+m) qaS
def SG :Nat:=9223372036854775808
def qd8 (x:Nat):Nat:=x % SG
def qp6 (x:Nat):Nat:=Op.negFloat .f64 x
structure Fin (x:Nat):Prop where
 sub: ∃d,floatBits .sub .f64 x x=some d∧(FloatKind.f64.format.order d 0==some .eq)=true
 eq:FloatKind.f64.format.order x x=some .eq
 inf:(FloatKind.f64.format.order x 9218868437227405311==some .gt)=false
 abs:(FloatKind.f64.format.order (qd8 x) 9218868437227405311==some .gt)=false
 lt:x<18446744073709551616
def ONE :Nat:=4607182418800017408
def qat (x:Nat):Nat:=if x / 4503599627370496 % 2048=0 then x % 4503599627370496 else x % 4503599627370496+4503599627370496
def qbj (x:Nat):Int:=if x / 4503599627370496 % 2048=0 then -1074 else(x / 4503599627370496 % 2048:Nat)-1075
def qb5 (neg:Bool) (m:Nat):Int:=if neg then -(m:Int)else m
section
def qb6 (x:Nat):Bool:=decide (x % 9223372036854775808<qaS)
theorem qcz {x:Nat} (hx:x<18446744073709551616) (h:qb6 x=true):Ieee.double.read x=.number (decide (SG≤x)) (qat x) (qbj x):=by
 have h:=of_decide_eq_true h;unfold Ieee.Format.read;simp only[show Ieee.double.signWeight=9223372036854775808 from by decide,show Ieee.double.binade=4503599627370496 from by decide,qeq,qnK]
 have hn:(x / 9223372036854775808 % 2==1)=decide (SG≤x):=by
  rw[Bool.eq_iff_iff,beq_iff_eq,decide_eq_true_eq];unfold SG;omega
 rw[hn];unfold qaS at h;by_cases h1:x % 9223372036854775808<4503599627370496
 ·rw [if_pos h1]
  have e1:x / 4503599627370496 % 2048=0:=by omega
  unfold qat qbj;rw[if_pos e1,if_pos e1];congr 1;omega
 ·rw [if_neg h1,if_pos (by unfold qaS;omega)]
  have e1: ¬x / 4503599627370496 % 2048=0:=by omega
  unfold qat qbj;rw[if_neg e1,if_neg e1];congr 1<;>omega
theorem qeF (x:Nat):qat x<9007199254740992:=by unfold qat;split<;>omega
theorem qcP {x:Nat} (h:qb6 x=true): -1074≤qbj x∧qbj x≤971:=by
 have h:=of_decide_eq_true h;unfold qaS at h;unfold qbj;split<;>omega
theorem qmg {x:Nat} (h:qaS<x % 9223372036854775808) (y:Nat):Ieee.double.order x y=none:=by
 have: ∃a b,Ieee.double.read x=.nan a b:=by
  unfold Ieee.Format.read;simp only[show Ieee.double.signWeight=9223372036854775808 from by decide,show Ieee.double.binade=4503599627370496 from by decide,qeq];unfold qaS at h⊢;rw[if_neg (by omega),if_neg (by omega),if_neg (by omega)];exact⟨_,_,rfl⟩
 obtain⟨a,b,e⟩:=this;unfold Ieee.Format.order;rw[e];rfl
theorem qi5 {x:Nat} (h:x % 9223372036854775808=qaS):Ieee.double.read x=.infinity (decide (SG≤x)&&decide (x / 9223372036854775808 % 2=1)):=by
 unfold Ieee.Format.read;simp only[show Ieee.double.signWeight=9223372036854775808 from by decide,show Ieee.double.binade=4503599627370496 from by decide,qeq];unfold qaS at h⊢;rw[if_neg (by omega),if_neg (by omega),if_pos h];congr 1
 rw[Bool.eq_iff_iff,beq_iff_eq,Bool.and_eq_true,decide_eq_true_eq,decide_eq_true_eq];unfold SG;omega
theorem qoh :Ieee.double.read 9218868437227405311=.number false 9007199254740991 971:=by decide
theorem qhK :Ieee.double.read 0=.number false 0 (-1074):=by decide
theorem qdw (neg:Bool) (m u:Nat):Ieee.signed neg m u=qb5 neg m*2 ^ u:=by
 unfold Ieee.signed qb5;cases neg
 ·simp [Nat.shiftLeft_eq]
 ·simp [Nat.shiftLeft_eq,Int.neg_mul]
theorem qkm {a b:Int} (h:a≤b):(some (compare a b)==some Ordering.gt)=false:=by
 have:compare a b≠ .gt:=by
  show compareOfLessAndEq a b≠_;unfold compareOfLessAndEq;split
  ·simp
  ·rw [if_pos (by omega)];simp
 cases hc:compare a b
 ·rfl
 ·rfl
 ·exact absurd hc this
theorem qfj {a b:Int} (h:b≤a):(some (compare a b)==some Ordering.lt)=false:=by
 have:compare a b≠ .lt:=by
  show compareOfLessAndEq a b≠_;unfold compareOfLessAndEq;rw[if_neg (by omega)];split<;>simp
 cases hc:compare a b
 ·exact absurd hc this
 ·rfl
 ·rfl
theorem qko {a b:Int} (h:a<b):(some (compare a b)==some Ordering.lt)=true:=by
 have:compare a b=.lt:=by
  show compareOfLessAndEq a b=_;unfold compareOfLessAndEq;rw[if_pos h]
 rw[this];rfl
theorem qhp (a:Int):(some (compare a a)==some Ordering.eq)=true:=by
 have:compare a a=.eq:=by
  show compareOfLessAndEq a a=_;unfold compareOfLessAndEq;rw[if_neg (by omega),if_pos rfl]
 rw[this];rfl
section
variable {x : Nat} (hx : x < 18446744073709551616) (h : qb6 x = true)
include hx h
theorem qjx :(Ieee.double.order x x==some .eq)=true:=by
 unfold Ieee.Format.order;rw[qcz hx h];exact qhp _
theorem qlB :(Ieee.double.order x 9218868437227405311==some .gt)=false:=by
 unfold Ieee.Format.order;rw[qcz hx h,qoh];have h1:=qcP h;have h2:=qeF x;refine qkm ?_;simp only[qdw];rw[show(qbj x-min (qbj x) 971).toNat=0 by omega,Int.pow_zero,Int.mul_one]
 have h3:(1:Int)≤2 ^ (971-min (qbj x) 971).toNat:=by
  have:=Int.pow_pos (n:=2) (m:=(971-min (qbj x) 971).toNat) (by omega);omega
 have h4:qb5 (decide (SG≤x)) (qat x)≤9007199254740991:=by unfold qb5;split<;>omega
 have h5:(9007199254740991:Int)*1≤9007199254740991*2 ^ (971-min (qbj x) 971).toNat:=Int.mul_le_mul_of_nonneg_left h3 (by omega);show _≤qb5 false 9007199254740991*_;rw[show qb5 false 9007199254740991=9007199254740991 from rfl];omega
theorem fin_neg :(Ieee.double.order x 0==some .lt)=(decide (SG≤x)&&decide (qat x≠0)):=by
 unfold Ieee.Format.order;rw[qcz hx h,qhK];have h1:=qcP h;show(some (compare (Ieee.signed (decide (SG≤x)) (qat x) (qbj x-min (qbj x) (-1074)).toNat) (Ieee.signed false 0 (-1074-min (qbj x) (-1074)).toNat))==some .lt)=_;simp only[qdw];rw[show qb5 false 0=0 from rfl,Int.zero_mul];by_cases hs:SG≤x
 ·rw [decide_eq_true hs]
  by_cases hm:qat x=0
  ·rw [hm,show qb5 true 0=0 from rfl,Int.zero_mul]
   exact qfj (Int.le_refl _)
  ·rw [decide_eq_true hm]
   refine qko (Int.mul_neg_of_neg_of_pos ?_ (Int.pow_pos (by omega)));show -(qat x:Int)<0;omega
 ·rw [decide_eq_false hs]
  refine qfj (Int.mul_nonneg ?_ (Int.le_of_lt (Int.pow_pos (by omega))));show(0:Int)≤(qat x:Int);omega
end
def qa3 (x:Nat):DyD×Int:=if qb6 x then qbb (qb5 (decide (SG≤x)) (qat x)) (qbj x)else(zD,5)
theorem qfP (x:Nat):qae (qa3 x).1=true:=by
 unfold qa3;split
 ·exact qet _ _
 ·exact qdF
theorem qhi {x:Nat} (h:qb6 x=true):(qa3 x).2=0:=by
 unfold qa3;rw[if_pos h];have h1:=qcP h;have h2:=qeF x;unfold qbb;by_cases h0:qb5 (decide (SG≤x)) (qat x)=0
 ·rw [if_pos h0]
 ·rw [if_neg h0]
  have h3:(qb5 (decide (SG≤x)) (qat x)).natAbs=qat x:=by unfold qb5;split<;>omega
  have h4:=qfx (show qat x≠0 by omega);have h5:tz (qat x)<53:=h4.lt (show qat x<2 ^ 53 from h2);rw[h3,if_pos];refine⟨?_,by omega,by omega⟩;have h6:qat x / 2 ^ tz (qat x)≤qat x:=Nat.div_le_self _ _;rw[qek];exact qgG (a:=8) (by omega) (by omega)
end
structure GsD where
 re:DyD
 im:DyD
def zG :GsD:=⟨zD,zD⟩
def gsB (g:GsD):Bool:=qae g.re&&qae g.im
theorem qan {g:GsD}:gsB g=true↔qae g.re=true∧qae g.im=true:=by unfold gsB;rw[Bool.and_eq_true]
def qaG (x y:DyD×Int):GsD×Int:=if x.2=0∧y.2=0 then(⟨x.1,y.1⟩,0)else(zG,4)
def qeB (a b:GsD):GsD×Int:=qaG (qdI a.re b.re) (qdI a.im b.im)
def twoS (x y:DyD×Int):DyD×Int:=if x.2=0∧y.2=0 then qaE x.1 y.1 else(zD,4)
def qca (g:GsD):DyD×Int:=twoS (mulS g.re g.re) (mulS g.im g.im)
theorem qjs {x y:DyD×Int} (hx:qae x.1=true) (hy:qae y.1=true):gsB (qaG x y).1=true:=by
 unfold qaG;split
 ·exact qan.2 ⟨hx,hy⟩
 ·rfl
theorem qpa {x y:DyD×Int} (hx:qae x.1=true) (hy:qae y.1=true):qae (twoS x y).1=true:=by
 unfold twoS;split
 ·exact qfB hx hy
 ·rfl
theorem qiA {a b:GsD} (ha:gsB a=true) (hb:gsB b=true):gsB (qeB a b).1=true:=
 qjs (qiD (qan.1 ha).1 (qan.1 hb).1) (qiD (qan.1 ha).2 (qan.1 hb).2)
theorem qg9 (g:GsD):qae (qca g).1=true:=qpa (qdf _ _) (qdf _ _)
theorem qeY (x y:DyD×Int):(qaG x y).2=0∨qaG x y=(zG,4):=by unfold qaG;split;exact .inl rfl;exact .inr rfl
theorem qgT (x y:DyD×Int):(twoS x y).2=0∨twoS x y=(zD,4):=by unfold twoS;split;exact qdH _ _;exact .inr rfl
structure SqD where
 left:DyD
 low:DyD
 e:Int
def zSq :SqD:=⟨zD,zD,0⟩
def sqB (s:SqD):Bool:=qae s.left&&(qae s.low&&(decide (-4096≤s.e)&&decide (s.e≤4096)))
theorem qax {s:SqD}:sqB s=true↔qae s.left=true∧qae s.low=true∧ -4096≤s.e∧s.e≤4096:=by
 unfold sqB;simp only[Bool.and_eq_true,decide_eq_true_eq]
def ofS (n e:Int):DyD:=(qbb n e).1
def qaP (d:DyD) (n e:Int):DyD×Int:=qaE d (ofS n e)
theorem qlH {n e:Int} (hn:n.natAbs<4294967296) (h1: -1000000≤e) (h2:e≤1000000):(qbb n e).2=0:=by
 unfold qbb;by_cases h0:n=0
 ·rw [if_pos h0]
 ·rw [if_neg h0]
  have h4:=qfx (show n.natAbs≠0 by omega);have h5:tz n.natAbs<32:=h4.lt (show n.natAbs<2 ^ 32 from hn);rw[if_pos];refine⟨?_,by omega,by omega⟩;have h6:n.natAbs / 2 ^ tz n.natAbs≤n.natAbs:=Nat.div_le_self _ _;rw[qek];exact qgG (a:=4) (by omega) (by omega)
theorem qo9 (e:Int):ofS 2 (e-1)=ofS 1 e:=by
 unfold ofS;have:=qkc 1 (e-1) 1;rw[show(1:Int)*2 ^ 1=2 from rfl]at this;rw[this,show e-1+((1:Nat):Int)=e by omega]
theorem qdl {d:DyD} (e:Int) (h:qae d=true):qaP d 0 e=(d,0):=by
 unfold qaP ofS;rw[qcH];unfold qaE;by_cases h0:d.num=0
 ·rw [if_pos h0,(qaj h).2.1 h0]
 ·rw [if_neg h0,if_pos qpO]
theorem qdV {d:DyD} (n e:Int) (h:qae d=true):qae (qaP d n e).1=true:=qfB h (qet _ _)
def qbi (s:SqD):DyD×Int:=qaP s.left 1 s.e
def qbs (s:SqD):DyD×Int:=qaP s.low 1 s.e
def qaY (s:SqD):Option (List GsD):=if (qbi s).2=0∧(qbs s).2=0 then some [⟨s.left,s.low⟩,⟨(qbi s).1,s.low⟩,⟨s.left,(qbs s).1⟩,⟨(qbi s).1,(qbs s).1⟩]else none
def qbB (s:SqD):GsD×Int:=qaG (qaP s.left 1 (s.e-1)) (qaP s.low 1 (s.e-1))
def qaQ (s:SqD):Option (List SqD):=if s.e= -4096 then none else if (qbB s).2=0 then
 some [⟨s.left,s.low,s.e-1⟩,⟨(qbB s).1.re,s.low,s.e-1⟩,⟨s.left,(qbB s).1.im,s.e-1⟩,⟨(qbB s).1.re,(qbB s).1.im,s.e-1⟩]else none
def qbW (s:SqD):DyD:=ofS 1 (2*s.e)
def qd7 (c:GsD):List GsD→DyD→Option DyD
 |[],m=>some m
 |g::l,m=>if (qeB g c).2=0∧(qca (qeB g c).1).2=0 then qd7 c l (if 0<qdk (qca (qeB g c).1).1 m then(qca (qeB g c).1).1 else m)else none
def qa7 (n:DyD) (b:Nat):Bool:=decide (0≤qdk (mulS (qa3 b).1 (qa3 b).1).1 n)
def qaR (f:Nat→Bool):Nat→Nat→Nat→Nat
 |0,i,_=>i
 |k+1,i,j=>if i<j then(if f ((i+j) / 2)then qaR f k i ((i+j) / 2)else qaR f k ((i+j) / 2+1) j)else i
def qbF :Nat:=9218868437227405311
structure BaD where
 re:Nat
 im:Nat
 r:Nat
def qah (s:SqD):BaD×Int:=
 match qaY s with
 |none=>(⟨0,0,0⟩,4)
 |some l=>if (qbB s).2=0 then
   (if qb6 (qaU (qbB s).1.re)&&qb6 (qaU (qbB s).1.im)then
    (match qd7 ⟨(qa3 (qaU (qbB s).1.re)).1,(qa3 (qaU (qbB s).1.im)).1⟩ l zD with
    |none=>(⟨0,0,0⟩,4)
    |some n=>if qa7 n qbF then(⟨qaU (qbB s).1.re,qaU (qbB s).1.im,qaR (qa7 n) 64 0 qbF⟩,0)else(⟨0,0,0⟩,5))
   else(⟨0,0,0⟩,5))
  else(⟨0,0,0⟩,4)
theorem qpF {s:SqD} (h:sqB s=true) {l:List GsD} (hl:qaY s=some l): ∀g∈l,gsB g=true:=by
 obtain⟨h1,h2,h3,h4⟩:=qax.1 h;unfold qaY at hl;split at hl
 ·cases hl
  have h5:qae (qbi s).1=true:=qdV _ _ h1;have h6:qae (qbs s).1=true:=qdV _ _ h2;intro g hg;simp only[List.mem_cons,List.not_mem_nil,or_false]at hg;rcases hg with rfl|rfl|rfl|rfl
  ·exact qan.2 ⟨h1,h2⟩
  ·exact qan.2 ⟨h5,h2⟩
  ·exact qan.2 ⟨h1,h6⟩
  ·exact qan.2 ⟨h5,h6⟩
 ·cases hl
theorem qgH {s:SqD} (h:sqB s=true):gsB (qbB s).1=true:=qjs (qdV _ _ (qax.1 h).1) (qdV _ _ (qax.1 h).2.1)
theorem qcL {s:SqD} (h:sqB s=true) {l:List SqD} (hl:qaQ s=some l):l.length=4∧∀q∈l,sqB q=true:=by
 have hm:=qan.1 (qgH h);obtain⟨h1,h2,h3,h4⟩:=qax.1 h;unfold qaQ at hl;split at hl
 ·cases hl
 ·rename_i hne
  split at hl
  ·cases hl
   refine⟨rfl,?_⟩;intro q hq;simp only[List.mem_cons,List.not_mem_nil,or_false]at hq;rcases hq with rfl|rfl|rfl|rfl
   ·exact qax.2 ⟨h1,h2,by show _≤s.e-1;omega,by show s.e-1≤_;omega⟩
   ·exact qax.2 ⟨hm.1,h2,by show _≤s.e-1;omega,by show s.e-1≤_;omega⟩
   ·exact qax.2 ⟨h1,hm.2,by show _≤s.e-1;omega,by show s.e-1≤_;omega⟩
   ·exact qax.2 ⟨hm.1,hm.2,by show _≤s.e-1;omega,by show s.e-1≤_;omega⟩
  ·cases hl
inductive TrT where
 |leaf (s:SqD) (d:Nat) (t:Nat)
 |node (s:SqD) (d:Nat) (a b c e:TrT)
namespace TrT
def sq :TrT→SqD
 |leaf s _ _=>s
 |node s _ _ _ _ _=>s
def leaves :TrT→List (SqD×Nat)
 |leaf s _ t=>[(s,t)]
 |node _ _ a b c e=>a.leaves++(b.leaves++(c.leaves++e.leaves))
def qfC (t:Nat):UInt8:=if t=1 then 105 else if t=2 then 111 else 117
def bytes :TrT→List UInt8
 |leaf _ _ t=>[qfC t]
 |node _ _ a b c e=>112::(a.bytes++(b.bytes++(c.bytes++e.bytes)))
def deep :TrT→Nat
 |leaf _ d _=>d
 |node _ d a b c e=>max d (max a.deep (max b.deep (max c.deep e.deep)))
def size :TrT→Nat
 |leaf _ _ _=>1
 |node _ _ a b c e=>1+(a.size+(b.size+(c.size+e.size)))
theorem size_pos : ∀t:TrT,0<t.size
 |leaf _ _ _=>by simp[size]
 |node _ _ _ _ _ _=>by simp[size];omega
end TrT
structure NdD where
 sq:SqD
 told:Nat
 depth:Nat
 kids:Option (Nat×Nat×Nat×Nat)
inductive qbk (L:List NdD):Nat→TrT→Prop
 |leaf (k:Nat) (n:NdD):L[k]? =some n→n.kids=none→qbk L k (.leaf n.sq n.depth n.told)
 |node (k:Nat) (n:NdD) (p q r s:Nat) (a b c e:TrT):L[k]? =some n→n.kids=some (p,q,r,s)→qbk L p a→qbk L q b→qbk L r c→qbk L s e→qbk L k (.node n.sq n.depth a b c e)
theorem qbk.uniq {L:List NdD} {k:Nat} {t u:TrT} (h:qbk L k t) (g:qbk L k u):t=u:=by
 induction h generalizing u with
 |leaf k n h1 h2=>
  cases g with
  |leaf _ m g1 g2=>rw[h1]at g1;cases g1;rfl
  |node _ m _ _ _ _ _ _ _ _ g1 g2=>rw[h1]at g1;cases g1;rw[h2]at g2;cases g2
 |node k n p q r s a b c e h1 h2 _ _ _ _ i1 i2 i3 i4=>
  cases g with
  |leaf _ m g1 g2=>rw[h1]at g1;cases g1;rw[h2]at g2;cases g2
  |node _ m p' q' r' s' a' b' c' e' g1 g2 k1 k2 k3 k4=>
   rw[h1]at g1;cases g1;rw[h2]at g2;cases g2;rw[i1 k1,i2 k2,i3 k3,i4 k4]
def toldOf (c:UInt8):Option Nat:=if c=117 then some 0 else if c=105 then some 1 else if c=111 then some 2 else none
def qbN (s:SqD):Option (SqD×SqD×SqD×SqD):=match qaQ s with
 |some [a,b,c,e]=>if (qah a).2=0∧(qah b).2=0∧(qah c).2=0∧(qah e).2=0 then some (a,b,c,e)else none
 |_=>none
def qaZ (P:SqD→List UInt8→Option (TrT×List UInt8)) (more:Bool) (s:SqD) (d:Nat):List UInt8→Option (TrT×List UInt8)
 |[]=>none
 |c::r=>match toldOf c with
  |some t=>some (.leaf s d t,r)
  |none=>if c=112∧more=true then
    match qbN s with
    |none=>none
    |some (q0,q1,q2,q3)=>
     (P q0 r).bind fun x0=>(P q1 x0.2).bind fun x1=>(P q2 x1.2).bind fun x2=>(P q3 x2.2).bind fun x3=>some (.node s d x0.1 x1.1 x2.1 x3.1,x3.2)
   else none
def qbc :Nat→SqD→List UInt8→Option (TrT×List UInt8)
 |0=>fun s=>qaZ (fun _ _=>none) false s 40
 |k+1=>fun s=>qaZ (qbc k) true s (39-k)
theorem qdR (s:SqD) (bs:List UInt8):qbc 0 s bs=qaZ (fun _ _=>none) false s 40 bs:=rfl
theorem qcW (k:Nat) (s:SqD) (bs:List UInt8):qbc (k+1) s bs=qaZ (qbc k) true s (39-k) bs:=rfl
inductive qcs (L:List NdD) (S:Nat→Prop):Nat→TrT→Prop
 |leaf (k:Nat) (n:NdD):S k→L[k]? =some n→n.kids=none→qcs L S k (.leaf n.sq n.depth n.told)
 |node (k:Nat) (n:NdD) (p q r s:Nat) (a b c e:TrT):S k→L[k]? =some n→n.kids=some (p,q,r,s)→qcs L S p a→qcs L S q b→qcs L S r c→qcs L S s e→qcs L S k (.node n.sq n.depth a b c e)
theorem qcs.tree {L:List NdD} {S:Nat→Prop} {k:Nat} {t:TrT} (h:qcs L S k t):qbk L k t:=by
 induction h with
 |leaf k n _ h1 h2=>exact .leaf k n h1 h2
 |node k n p q r s a b c e _ h1 h2 _ _ _ _ i1 i2 i3 i4=>exact .node k n p q r s a b c e h1 h2 i1 i2 i3 i4
theorem qcs.mono {L M:List NdD} {S R:Nat→Prop} {k:Nat} {t:TrT} (h:qcs L S k t) (hm: ∀j,S j→M[j]? =L[j]?) (hs: ∀j,S j→R j):qcs M R k t:=by
 induction h with
 |leaf k n h0 h1 h2=>exact .leaf k n (hs k h0) ((hm k h0).trans h1) h2
 |node k n p q r s a b c e h0 h1 h2 _ _ _ _ i1 i2 i3 i4=>exact .node k n p q r s a b c e (hs k h0) ((hm k h0).trans h1) h2 i1 i2 i3 i4
def qcM (L:List NdD):Nat:=(L.map NdD.depth).foldl max 0
theorem foldl_max (l:List Nat): ∀a,l.foldl max a=max a (l.foldl max 0):=by
 induction l with
 |nil=>intro a;simp
 |cons x l ih=>intro a;rw[List.foldl_cons,List.foldl_cons,ih,ih (max 0 x)];omega
theorem qjn (L M:List NdD):qcM (L++M)=max (qcM L) (qcM M):=by
 unfold qcM;rw[List.map_append,List.foldl_append,foldl_max]
theorem qja {L:List NdD} {k:Nat} {n m:NdD} (h:L[k]? =some n) (hd:m.depth=n.depth):qcM (L.set k m)=qcM L:=by
 unfold qcM;congr 1
 rw[List.map_set];apply List.ext_getElem?;intro j;by_cases hj:k=j
 ·subst hj
  have:=(List.getElem?_eq_some_iff.1 h).1;rw[List.getElem?_set_self (by simpa using this),List.getElem?_map,h,hd];rfl
 ·rw [List.getElem?_set_ne hj]
theorem qf4 {L:List NdD} {k:Nat} {n:NdD} (h:L[k]? =some n):n.depth≤qcM L:=by
 have key: ∀(l:List Nat) (a x:Nat),x∈l→x≤l.foldl max a:=by
  intro l;induction l with
  |nil=>intro a x h;cases h
  |cons y l ih=>
   intro a x h;rw[List.foldl_cons];rcases List.mem_cons.1 h with rfl|h
   ·rw [foldl_max];omega
   ·exact ih _ x h
 exact key _ _ _ (List.mem_map.2 ⟨n,List.mem_of_getElem? h,rfl⟩)
def NdD.part (n:NdD) (m:Nat):NdD:={n with kids:=some (m,m+1,m+2,m+3)}
def kid (n:NdD) (s:SqD):NdD:=⟨s,0,n.depth+1,none⟩
def grown (L:List NdD) (k:Nat) (n:NdD) (q:SqD×SqD×SqD×SqD):List NdD:=L.set k (n.part L.length)++[kid n q.1,kid n q.2.1,kid n q.2.2.1,kid n q.2.2.2]
def qbL :Nat→List NdD→List Nat→List UInt8→Option (List NdD)
 |0,_,_,_=>none
 |_+1,L,[],bs=>if bs=[]then some L else none
 |_+1,_,_::_,[]=>none
 |f+1,L,k::P,c::r=>
  match L[k]? with
  |none=>none
  |some n=>match toldOf c with
   |some t=>qbL f (L.set k {n with told:=t}) P r
   |none=>if c=112∧n.depth<40 then
     match qbN n.sq with
     |none=>none
     |some q=>qbL f (grown L k n q) (L.length::(L.length+1)::(L.length+2)::(L.length+3)::P) r
    else none
theorem qe4 : ∀(f g:Nat) (L:List NdD) (P:List Nat) (bs:List UInt8),bs.length<f→bs.length<g→qbL f L P bs=qbL g L P bs
 |0,_,_,_,_,h,_=>by omega
 |_+1,0,_,_,_,_,h=>by omega
 |f+1,g+1,L,[],bs,_,_=>by rw[qbL,qbL]
 |f+1,g+1,L,k::P,[],_,_=>by rw[qbL,qbL]
 |f+1,g+1,L,k::P,c::r,h,h'=>by
  simp only[List.length_cons]at h h';rw[qbL,qbL];split
  ·rfl
  ·split
   ·exact qe4 f g _ _ _ (by omega) (by omega)
   ·split
    ·split
     ·rfl
     ·exact qe4 f g _ _ _ (by omega) (by omega)
    ·rfl
theorem ql4 (L:List NdD) (k:Nat) (n:NdD) (q:SqD×SqD×SqD×SqD):(grown L k n q).length=L.length+4:=by simp[grown]
theorem qmb {L:List NdD} {k j:Nat} {n:NdD} {q:SqD×SqD×SqD×SqD} (hj:j<L.length) (hk:j≠k):(grown L k n q)[j]? =L[j]? :=by
 unfold grown;rw[List.getElem?_append_left (by simpa using hj),List.getElem?_set_ne (fun e=>hk e.symm)]
theorem qn1 {L:List NdD} {k:Nat} {n:NdD} {q:SqD×SqD×SqD×SqD} (hk:k<L.length):(grown L k n q)[k]? =some (n.part L.length):=by
 unfold grown;rw[List.getElem?_append_left (by simpa using hk),List.getElem?_set_self hk]
theorem qmJ {L:List NdD} {k:Nat} {n:NdD} {q:SqD×SqD×SqD×SqD}:(grown L k n q)[L.length]? =some (kid n q.1)∧(grown L k n q)[L.length+1]? =some (kid n q.2.1)∧(grown L k n q)[L.length+2]? =some (kid n q.2.2.1)∧(grown L k n q)[L.length+3]? =some (kid n q.2.2.2):=by
 unfold grown;refine⟨?_,?_,?_,?_⟩<;>(rw[List.getElem?_append_right (by simp)];simp)
theorem qkI {L:List NdD} {k:Nat} {n:NdD} {q:SqD×SqD×SqD×SqD} (h:L[k]? =some n):qcM (grown L k n q)=max (qcM L) (n.depth+1):=by
 unfold grown;rw[qjn,qja (m:=n.part L.length) h rfl];congr 1
 simp[qcM,kid]
def qgI (L:List NdD) (k:Nat) (P:List Nat) (bs:List UInt8) (f:Nat) (x:Option (TrT×List UInt8)):Prop:=
 match x with
 |none=>qbL f L (k::P) bs=none
 |some (T,r)=>r.length<bs.length∧∃M,qbL f L (k::P) bs=qbL f M P r∧qcs M (fun j=>(j=k∨L.length≤j)∧j<M.length) k T∧(∀n,L[k]? =some n→n.depth≤T.deep)∧(∀j,j<L.length→j≠k→M[j]? =L[j]?)∧L.length≤M.length∧M.length≤L.length+4*(bs.length-r.length)∧qcM M=max (qcM L) T.deep
theorem qnv {P:SqD→List UInt8→Option (TrT×List UInt8)} {n:NdD} (hP: ∀(s:SqD) (bs:List UInt8) (L:List NdD) (k:Nat) (Q:List Nat) (f:Nat),L[k]? =some ⟨s,0,n.depth+1,none⟩→bs.length<f→qgI L k Q bs f (P s bs)) (q:SqD×SqD×SqD×SqD)
  (L:List NdD) (k:Nat) (Q:List Nat) (r:List UInt8) (f:Nat) (h:L[k]? =some n) (hf:r.length<f):
  match (P q.1 r).bind fun x0=>(P q.2.1 x0.2).bind fun x1=>(P q.2.2.1 x1.2).bind fun x2=>(P q.2.2.2 x2.2).bind fun x3=>some (TrT.node n.sq n.depth x0.1 x1.1 x2.1 x3.1,x3.2)with
  |none=>qbL f (grown L k n q) (L.length::(L.length+1)::(L.length+2)::(L.length+3)::Q) r=none
  |some (T,t)=>t.length<r.length∧∃M,qbL f (grown L k n q) (L.length::(L.length+1)::(L.length+2)::(L.length+3)::Q) r=qbL f M Q t∧qcs M (fun j=>(j=k∨L.length≤j)∧j<M.length) k T∧(∀n,L[k]? =some n→n.depth≤T.deep)∧(∀j,j<L.length→j≠k→M[j]? =L[j]?)∧L.length≤M.length∧M.length≤L.length+4+4*(r.length-t.length)∧qcM M=max (qcM L) T.deep:=by
 have hk:=(List.getElem?_eq_some_iff.1 h).1;have hl:=ql4 L k n q;obtain⟨g0,g1,g2,g3⟩:=qmJ (L:=L) (k:=k) (n:=n) (q:=q);have gk:=qn1 (n:=n) (q:=q) hk;have ho: ∀j,j<L.length→j≠k→(grown L k n q)[j]? =L[j]? :=fun j h1 h2=>qmb h1 h2;have hm:=qkI (q:=q) h;obtain⟨G,hG⟩: ∃G,G=grown L k n q:=⟨_,rfl⟩
 rw[←hG]at hl g0 g1 g2 g3 gk ho hm⊢;have h0:=hP q.1 r G L.length ((L.length+1)::(L.length+2)::(L.length+3)::Q) f g0 hf;cases e0:P q.1 r with
 |none=>rw[e0]at h0;exact h0
 |some x0=>
  obtain⟨T0,r0⟩:=x0;rw[e0]at h0;obtain⟨b0,M0,s0,t0,v0,o0,l0,u0,d0⟩:=h0;simp only[Option.bind_some];have h1:=hP q.2.1 r0 M0 (L.length+1) ((L.length+2)::(L.length+3)::Q) f ((o0 _ (by omega) (by omega)).trans g1) (by omega);cases e1:P q.2.1 r0 with
  |none=>rw[e1]at h1;exact s0.trans h1
  |some x1=>
   obtain⟨T1,r1⟩:=x1;rw[e1]at h1;obtain⟨b1,M1,s1,t1,v1,o1,l1,u1,d1⟩:=h1;simp only[Option.bind_some];have h2:=hP q.2.2.1 r1 M1 (L.length+2) ((L.length+3)::Q) f ((o1 _ (by omega) (by omega)).trans ((o0 _ (by omega) (by omega)).trans g2)) (by omega);cases e2:P q.2.2.1 r1 with
   |none=>rw[e2]at h2;exact s0.trans (s1.trans h2)
   |some x2=>
    obtain⟨T2,r2⟩:=x2;rw[e2]at h2;obtain⟨b2,M2,s2,t2,v2,o2,l2,u2,d2⟩:=h2;simp only[Option.bind_some];have h3:=hP q.2.2.2 r2 M2 (L.length+3) Q f ((o2 _ (by omega) (by omega)).trans ((o1 _ (by omega) (by omega)).trans ((o0 _ (by omega) (by omega)).trans g3))) (by omega);cases e3:P q.2.2.2 r2 with
    |none=>rw[e3]at h3;exact s0.trans (s1.trans (s2.trans h3))
    |some x3=>
     obtain⟨T3,r3⟩:=x3;rw[e3]at h3;obtain⟨b3,M3,s3,t3,v3,o3,l3,u3,d3⟩:=h3;simp only[Option.bind_some];have hk3:M3[k]? =some (n.part L.length):=(o3 k (by omega) (by omega)).trans ((o2 k (by omega) (by omega)).trans ((o1 k (by omega) (by omega)).trans ((o0 k (by omega) (by omega)).trans gk)));have w0:=v0 _ g0;have w1:=v1 _ ((o0 _ (by omega) (by omega)).trans g1);have w2:=v2 _ ((o1 _ (by omega) (by omega)).trans ((o0 _ (by omega) (by omega)).trans g2));have w3:=v3 _ ((o2 _ (by omega) (by omega)).trans ((o1 _ (by omega) (by omega)).trans ((o0 _ (by omega) (by omega)).trans g3)));simp only[kid]at w0 w1 w2 w3;refine⟨by omega,M3,s0.trans (s1.trans (s2.trans s3)),?_,?_,?_,by omega,by omega,?_⟩
     ·refine qcs.node k (n.part L.length) L.length (L.length+1) (L.length+2) (L.length+3) T0 T1 T2 T3 ⟨.inl rfl,by omega⟩ hk3 rfl ?_ ?_ ?_ ?_
      ·exact t0.mono (fun j hj=>(o3 j (by omega) (by omega)).trans ((o2 j (by omega) (by omega)).trans (o1 j (by omega) (by omega)))) (fun j hj=>by omega)
      ·exact t1.mono (fun j hj=>(o3 j (by omega) (by omega)).trans (o2 j (by omega) (by omega))) (fun j hj=>by omega)
      ·exact t2.mono (fun j hj=>o3 j (by omega) (by omega)) (fun j hj=>by omega)
      ·exact t3.mono (fun j hj=>rfl) (fun j hj=>by omega)
     ·intro m hm2
      rw[h]at hm2;cases hm2;simp only[TrT.deep];omega
     ·intro j h4 h5
      exact(o3 j (by omega) (by omega)).trans ((o2 j (by omega) (by omega)).trans ((o1 j (by omega) (by omega)).trans ((o0 j (by omega) (by omega)).trans (ho j h4 h5))))
     ·have e4:=qf4 h
      rw[d3,d2,d1,d0,hm];simp only[TrT.deep];omega
theorem qh2 : ∀(k:Nat),k≤40→∀(s:SqD) (bs:List UInt8) (L:List NdD) (at_:Nat) (Q:List Nat) (f:Nat),L[at_]? =some ⟨s,0,40-k,none⟩→bs.length<f→qgI L at_ Q bs f (qbc k s bs)
 |k,hk0,s,[],L,at_,Q,f,h,hf=>by
  have e:qbc k s []=none:=by cases k<;>rfl
  rw[e];obtain⟨g,rfl⟩: ∃g,f=g+1:=⟨f-1,by omega⟩
  show qbL (g+1) L (at_::Q) []=none;rw[qbL]
 |k,hk0,s,c::r,L,at_,Q,f,h,hf=>by
  obtain⟨g,rfl⟩: ∃g,f=g+1:=⟨f-1,by omega⟩
  simp only[List.length_cons]at hf;have hk:=(List.getElem?_eq_some_iff.1 h).1;cases ht:toldOf c with
  |some t=>
   have e:qbc k s (c::r)=some (.leaf s (40-k) t,r):=by
    cases k with
    |zero=>rw[qdR,qaZ,ht]
    |succ k=>rw[qcW,qaZ,ht];show some (TrT.leaf s (39-k) t,r)=_;congr 3;omega
   rw[e];refine⟨by simp,L.set at_ ⟨s,t,40-k,none⟩,?_,?_,?_,?_,by simp,by simp,?_⟩
   ·rw [qbL,h]
    simp only[ht];exact qe4 _ _ _ _ _ (by omega) (by omega)
   ·exact .leaf at_ ⟨s,t,40-k,none⟩ ⟨.inl rfl,by simpa using hk⟩ (List.getElem?_set_self hk) rfl
   ·intro n hn;rw[h]at hn;cases hn;exact Nat.le_refl _
   ·intro j _ hj;exact List.getElem?_set_ne (fun e=>hj e.symm)
   ·rw [qja (m:=⟨s,t,40-k,none⟩) h rfl]
    have:=qf4 h;simp only[TrT.deep]at this⊢;omega
  |none=>
   by_cases hc:c=112
   ·cases k with
    |zero=>
     have e:qbc 0 s (c::r)=none:=by rw[qdR,qaZ,ht];simp
     rw[e];show qbL (g+1) L (at_::Q) (c::r)=none;rw[qbL,h];simp[ht]
    |succ k=>
     cases hp:qbN s with
     |none=>
      have e:qbc (k+1) s (c::r)=none:=by rw[qcW,qaZ,ht];simp[hc,hp]
      rw[e];show qbL (g+1) L (at_::Q) (c::r)=none;rw[qbL,h];simp only[ht,hp];split<;>rfl
     |some q=>
      have h4:=qnv (P:=qbc k) (n:=⟨s,0,40-(k+1),none⟩) (fun s' bs' L' k' Q' f' h' hf'=>qh2 k (by omega) s' bs' L' k' Q' f' (by rw[h'];show some (NdD.mk s' 0 (40-(k+1)+1) none)=_;congr 2;omega) hf') q L at_ Q r g h (by omega)
      have e:qbc (k+1) s (c::r)=((qbc k q.1 r).bind fun x0=>(qbc k q.2.1 x0.2).bind fun x1=>(qbc k q.2.2.1 x1.2).bind fun x2=>(qbc k q.2.2.2 x2.2).bind fun x3=>some (TrT.node s (40-(k+1)) x0.1 x1.1 x2.1 x3.1,x3.2)):=by
       rw[qcW,qaZ,ht];simp only[hc,hp,and_self,if_true];obtain⟨q0,q1,q2,q3⟩:=q;rw[show 39-k=40-(k+1) by omega]
      have er:qbL (g+1) L (at_::Q) (c::r)=qbL g (grown L at_ ⟨s,0,40-(k+1),none⟩ q) (L.length::(L.length+1)::(L.length+2)::(L.length+3)::Q) r:=by
       rw[qbL,h];simp only[ht,hp];rw[if_pos ⟨hc,by show 40-(k+1)<40;omega⟩]
      rw[e];unfold qgI;rw[er];revert h4;generalize((qbc k q.1 r).bind fun x0=>(qbc k q.2.1 x0.2).bind fun x1=>(qbc k q.2.2.1 x1.2).bind fun x2=>(qbc k q.2.2.2 x2.2).bind fun x3=>some (TrT.node s (40-(k+1)) x0.1 x1.1 x2.1 x3.1,x3.2))=x;intro h4;cases x with
      |none=>exact h4
      |some x=>
       obtain⟨T,t⟩:=x;obtain⟨b,M,s1,t1,v1,o1,l1,u1,d1⟩:=h4;refine⟨by simp only[List.length_cons];omega,M,?_,t1,v1,o1,l1,by simp only[List.length_cons];omega,d1⟩;rw[s1];exact qe4 _ _ _ _ _ (by omega) (by omega)
   ·have e:qbc k s (c::r)=none:=by
     cases k with
     |zero=>rw[qdR,qaZ,ht];simp
     |succ k=>rw[qcW,qaZ,ht];simp[hc]
    rw[e];show qbL (g+1) L (at_::Q) (c::r)=none;rw[qbL,h];simp[ht,hc]
section
def qgB (n:NdD) (s:SqD) (t:Nat):NdD:=⟨s,t,n.depth+1,none⟩
def qaI (L:List NdD) (k:Nat) (n:NdD) (q:SqD×SqD×SqD×SqD) (t:SqD→Nat):List NdD:=L.set k (n.part L.length)++[qgB n q.1 (t q.1),qgB n q.2.1 (t q.2.1),qgB n q.2.2.1 (t q.2.2.1),qgB n q.2.2.2 (t q.2.2.2)]
structure StD where
 L:List NdD
 n:Nat
def qav (S:StD) (k:Nat):Option (NdD×(SqD×SqD×SqD×SqD)):=match S.L[k]? with
 |none=>none
 |some n=>if n.kids=none∧n.told=0∧n.depth<40∧S.n+3≤65536 then(qbN n.sq).map fun q=>(n,q)else none
def qbV (t:SqD→Nat) (S:StD) (k:Nat):StD×Bool:=match qav S k with
 |none=>(S,false)
 |some (n,q)=>(⟨qaI S.L k n q t,S.n+3⟩,true)
section
variable {L : List NdD} {k : Nat} {n : NdD} {q : SqD × SqD × SqD × SqD} {t : SqD → Nat}
theorem qbR :(qaI L k n q t).length=L.length+4:=by simp[qaI]
theorem qen {j:Nat} (hj:j<L.length) (hk:j≠k):(qaI L k n q t)[j]? =L[j]? :=by
 unfold qaI;rw[List.getElem?_append_left (by simpa using hj),List.getElem?_set_ne (fun e=>hk e.symm)]
theorem qgf (hk:k<L.length):(qaI L k n q t)[k]? =some (n.part L.length):=by
 unfold qaI;rw[List.getElem?_append_left (by simpa using hk),List.getElem?_set_self hk]
theorem qfp :(qaI L k n q t)[L.length]? =some (qgB n q.1 (t q.1))∧(qaI L k n q t)[L.length+1]? =some (qgB n q.2.1 (t q.2.1))∧(qaI L k n q t)[L.length+2]? =some (qgB n q.2.2.1 (t q.2.2.1))∧(qaI L k n q t)[L.length+3]? =some (qgB n q.2.2.2 (t q.2.2.2)):=by
 unfold qaI;refine⟨?_,?_,?_,?_⟩<;>(rw[List.getElem?_append_right (by simp)];simp)
end
def qdX (L:List NdD):Prop:= ∀(k:Nat) (n:NdD) (p q r s:Nat),L[k]? =some n→n.kids=some (p,q,r,s)→(k<p∧p<L.length)∧(k<q∧q<L.length)∧(k<r∧r<L.length)∧(k<s∧s<L.length)
theorem qf2 {L:List NdD} {k j:Nat} {n m:NdD} {q:SqD×SqD×SqD×SqD} {t:SqD→Nat} (hk:k<L.length) (h:(qaI L k n q t)[j]? =some m):(j=k∧m=n.part L.length)∨(j<L.length∧j≠k∧L[j]? =some m)∨(L.length≤j∧m.kids=none∧m.depth=n.depth+1∧∃s,(s=q.1∨s=q.2.1∨s=q.2.2.1∨s=q.2.2.2)∧m.sq=s∧m.told=t s):=by
 by_cases h1:j<L.length
 ·by_cases h2:j=k
  ·subst h2;rw[qgf hk]at h;cases h;exact .inl ⟨rfl,rfl⟩
  ·rw [qen h1 h2]at h;exact .inr (.inl ⟨h1,h2,h⟩)
 ·have h3:=(List.getElem?_eq_some_iff.1 h).1
  rw[qbR]at h3;obtain⟨g0,g1,g2,g3⟩:=qfp (L:=L) (k:=k) (n:=n) (q:=q) (t:=t);rcases(show j=L.length∨j=L.length+1∨j=L.length+2∨j=L.length+3 by omega)with rfl|rfl|rfl|rfl
  ·rw [g0]at h;cases h;exact .inr (.inr ⟨by omega,rfl,rfl,_,.inl rfl,rfl,rfl⟩)
  ·rw [g1]at h;cases h;exact .inr (.inr ⟨by omega,rfl,rfl,_,.inr (.inl rfl),rfl,rfl⟩)
  ·rw [g2]at h;cases h;exact .inr (.inr ⟨by omega,rfl,rfl,_,.inr (.inr (.inl rfl)),rfl,rfl⟩)
  ·rw [g3]at h;cases h;exact .inr (.inr ⟨by omega,rfl,rfl,_,.inr (.inr (.inr rfl)),rfl,rfl⟩)
theorem qdX.grown {L:List NdD} (h:qdX L) {k:Nat} {n:NdD} (hk:L[k]? =some n) (q:SqD×SqD×SqD×SqD) (t:SqD→Nat):qdX (qaI L k n q t):=by
 have hl:=(List.getElem?_eq_some_iff.1 hk).1;intro j m a b c d hj hm;rw[qbR];rcases qf2 hl hj with ⟨rfl,rfl⟩|⟨h1,h2,h3⟩|⟨h1,h2,h3⟩
 ·cases hm;omega
 ·have:=h j m a b c d h3 hm;omega
 ·rw [h2]at hm;cases hm
inductive qaz (L:List NdD):Nat→TrT→List Nat→Prop
 |leaf (k:Nat) (n:NdD):L[k]? =some n→n.kids=none→qaz L k (.leaf n.sq n.depth n.told) [k]
 |node (k:Nat) (n:NdD) (p q r s:Nat) (a b c e:TrT) (P Q R S:List Nat):L[k]? =some n→n.kids=some (p,q,r,s)→qaz L p a P→qaz L q b Q→qaz L r c R→qaz L s e S→qaz L k (.node n.sq n.depth a b c e) (k::(P++(Q++(R++S))))
theorem qaz.tree {L:List NdD} {k:Nat} {t:TrT} {P:List Nat} (h:qaz L k t P):qbk L k t:=by
 induction h with
 |leaf k n h1 h2=>exact .leaf k n h1 h2
 |node k n p q r s a b c e P Q R S h1 h2 _ _ _ _ i1 i2 i3 i4=>exact .node k n p q r s a b c e h1 h2 i1 i2 i3 i4
theorem qaz.size {L:List NdD} {k:Nat} {t:TrT} {P:List Nat} (h:qaz L k t P):P.length=t.size:=by
 induction h with
 |leaf k n h1 h2=>rfl
 |node k n p q r s a b c e P Q R S h1 h2 _ _ _ _ i1 i2 i3 i4=>simp[TrT.size,i1,i2,i3,i4];omega
theorem qaz.mono {L M:List NdD} {k:Nat} {t:TrT} {P:List Nat} (h:qaz L k t P) (hm: ∀j∈P,M[j]? =L[j]?):qaz M k t P:=by
 induction h with
 |leaf k n h1 h2=>exact .leaf k n ((hm k (by simp)).trans h1) h2
 |node k n p q r s a b c e P Q R S h1 h2 _ _ _ _ i1 i2 i3 i4=>
  exact .node k n p q r s a b c e P Q R S ((hm k (by simp)).trans h1) h2 (i1 fun j hj=>hm j (by simp[hj])) (i2 fun j hj=>hm j (by simp[hj])) (i3 fun j hj=>hm j (by simp[hj])) (i4 fun j hj=>hm j (by simp[hj]))
theorem qaz.lt {L:List NdD} {k:Nat} {t:TrT} {P:List Nat} (h:qaz L k t P): ∀j∈P,j<L.length:=by
 induction h with
 |leaf k n h1 h2=>intro j hj;simp at hj;subst hj;exact(List.getElem?_eq_some_iff.1 h1).1
 |node k n p q r s a b c e P Q R S h1 h2 _ _ _ _ i1 i2 i3 i4=>
  intro j hj;simp only[List.mem_cons,List.mem_append]at hj;rcases hj with rfl|hj|hj|hj|hj
  ·exact(List.getElem?_eq_some_iff.1 h1).1
  ·exact i1 j hj
  ·exact i2 j hj
  ·exact i3 j hj
  ·exact i4 j hj
theorem qaz.grown {L:List NdD} {x:Nat} {m:NdD} (hx:L[x]? =some m) (hm:m.kids=none) (sq:SqD×SqD×SqD×SqD) (t:SqD→Nat) {k:Nat} {T:TrT} {P:List Nat} (h:qaz L k T P) (hn:P.Nodup) (hmem:x∈P):
  ∃T' P',qaz (qaI L x m sq t) k T' P'∧P'.Perm (P++[L.length,L.length+1,L.length+2,L.length+3]):=by
 have hl:=(List.getElem?_eq_some_iff.1 hx).1;have keep: ∀{k:Nat} {T:TrT} {P:List Nat},qaz L k T P→x ∉ P→qaz (qaI L x m sq t) k T P:=fun h hne=>h.mono fun j hj=>qen (h.lt j hj) (fun e=>hne (e ▸ hj));induction h with
 |leaf k n h1 h2=>
  simp at hmem;subst hmem;have hnm:n=m:=Option.some.inj (h1.symm.trans hx);subst hnm;obtain⟨g0,g1,g2,g3⟩:=qfp (L:=L) (k:=x) (n:=n) (q:=sq) (t:=t);refine⟨_,_,.node x (n.part L.length) L.length (L.length+1) (L.length+2) (L.length+3) _ _ _ _ _ _ _ _ (qgf hl) rfl (.leaf _ _ g0 rfl) (.leaf _ _ g1 rfl) (.leaf _ _ g2 rfl) (.leaf _ _ g3 rfl),?_⟩;exact List.Perm.refl _
 |node k n p q r s a b c e P Q R S h1 h2 k1 k2 k3 k4 i1 i2 i3 i4=>
  have hne:k≠x:=by
   rintro rfl;rw[h1]at hx;cases hx;rw[h2]at hm;cases hm
  have hk:(qaI L x m sq t)[k]? =some n:=by
   rw[qen (List.getElem?_eq_some_iff.1 h1).1 hne];exact h1
  have hn0:=hn;rw[List.nodup_cons]at hn;obtain⟨-,hn⟩:=hn;rw[List.nodup_append]at hn;obtain⟨nP,hn,dP⟩:=hn;rw[List.nodup_append]at hn;obtain⟨nQ,hn,dQ⟩:=hn;rw[List.nodup_append]at hn;obtain⟨nR,nS,dR⟩:=hn;simp only[List.mem_cons,List.mem_append]at hmem
  have perm: ∀(A B X Y:List Nat),Y.Perm (X++[L.length,L.length+1,L.length+2,L.length+3])→(A++(Y++B)).Perm (A++(X++B)++[L.length,L.length+1,L.length+2,L.length+3]):=by
   intro A B X Y h;rw[List.append_assoc];refine List.Perm.append_left A ?_;refine(List.Perm.append_right B h).trans ?_;rw[List.append_assoc,List.append_assoc];exact List.Perm.append_left X List.perm_append_comm
  rcases hmem with e0|h|h|h|h
  ·exact absurd e0.symm hne
  ·obtain⟨T',P',a1,a2⟩:=i1 nP h
   refine⟨_,_,.node k n p q r s T' b c e P' Q R S hk h2 a1 (keep k2 fun hq=>dP x h x (by simp[hq]) rfl) (keep k3 fun hq=>dP x h x (by simp[hq]) rfl) (keep k4 fun hq=>dP x h x (by simp[hq]) rfl),?_⟩;exact List.Perm.cons k (perm [] (Q++(R++S)) P P' a2)
  ·obtain⟨T',P',a1,a2⟩:=i2 nQ h
   refine⟨_,_,.node k n p q r s a T' c e P P' R S hk h2 (keep k1 fun hq=>dP x hq x (by simp[h]) rfl) a1 (keep k3 fun hq=>dQ x h x (by simp[hq]) rfl) (keep k4 fun hq=>dQ x h x (by simp[hq]) rfl),?_⟩;exact List.Perm.cons k (perm P (R++S) Q P' a2)
  ·obtain⟨T',P',a1,a2⟩:=i3 nR h
   refine⟨_,_,.node k n p q r s a b T' e P Q P' S hk h2 (keep k1 fun hq=>dP x hq x (by simp[h]) rfl) (keep k2 fun hq=>dQ x hq x (by simp[h]) rfl) a1 (keep k4 fun hq=>dR x h x hq rfl),?_⟩;have:=perm (P++Q) S R P' a2;rw[List.cons_append];refine List.Perm.cons k ?_;simp only[List.append_assoc]at this⊢;exact this
  ·obtain⟨T',P',a1,a2⟩:=i4 nS h
   refine⟨_,_,.node k n p q r s a b c T' P Q R P' hk h2 (keep k1 fun hq=>dP x hq x (by simp[h]) rfl) (keep k2 fun hq=>dQ x hq x (by simp[h]) rfl) (keep k3 fun hq=>dR x hq x h rfl) a1,?_⟩;have:=perm (P++(Q++R)) [] S P' a2;rw[List.cons_append];refine List.Perm.cons k ?_;simp only[List.append_assoc,List.append_nil]at this⊢;exact this
structure Whole (S:StD):Prop where
 tree: ∃T P,qaz S.L 0 T P∧P.Perm (List.range S.L.length)
 kids:qdX S.L
 count:4*S.n=3*S.L.length+1
 some_:0<S.L.length
 few:S.n≤65536
theorem qkx (n:Nat):List.range n++[n,n+1,n+2,n+3]=List.range (n+4):=by
 rw[List.range_succ (n:=n+3),List.range_succ (n:=n+2),List.range_succ (n:=n+1),List.range_succ];simp
theorem qbf {S:StD} {k:Nat} {n:NdD} {q:SqD×SqD×SqD×SqD} (h:qav S k=some (n,q)):S.L[k]? =some n∧n.kids=none∧n.told=0∧n.depth<40∧S.n+3≤65536∧qbN n.sq=some q:=by
 unfold qav at h;cases hk:S.L[k]? with
 |none=>rw[hk]at h;cases h
 |some m=>
  rw[hk]at h;simp only at h;split at h
  ·rename_i h1
   cases hp:qbN m.sq with
   |none=>rw[hp]at h;cases h
   |some q'=>
    rw[hp]at h;cases h;exact⟨rfl,h1.1,h1.2.1,h1.2.2.1,h1.2.2.2,hp⟩
  ·cases h
theorem Whole.part {S:StD} (h:Whole S) (t:SqD→Nat) (k:Nat):Whole (qbV t S k).1:=by
 unfold qbV;cases hs:qav S k with
 |none=>exact h
 |some x=>
  obtain⟨n,q⟩:=x;obtain⟨h1,h2,h3,h4,h5,h6⟩:=qbf hs;have hl:=(List.getElem?_eq_some_iff.1 h1).1;obtain⟨T,P,t1,t2⟩:=h.tree;obtain⟨T',P',u1,u2⟩:=qaz.grown h1 h2 q t t1 (t2.nodup_iff.2 List.nodup_range) (t2.mem_iff.2 (List.mem_range.2 hl));refine⟨⟨T',P',u1,?_⟩,h.kids.grown h1 q t,?_,?_,h5⟩
  ·show P'.Perm (List.range (qaI S.L k n q t).length)
   rw[qbR,←qkx];exact u2.trans (List.Perm.append_right _ t2)
  ·show 4*(S.n+3)=3*(qaI S.L k n q t).length+1
   rw[qbR];have:=h.count;omega
  ·show 0<(qaI S.L k n q t).length
   rw[qbR];omega
end
def qdY (L:List NdD):Nat→Nat→List Nat
 |0,_=>[]
 |f+1,k=>match L[k]? with
  |none=>[]
  |some n=>match n.kids with
   |none=>[k]
   |some (p,q,r,s)=>k::(qdY L f p++(qdY L f q++(qdY L f r++qdY L f s)))
def qa9 (L:List NdD) (k:Nat):Bool:=match L[k]? with
 |none=>false
 |some n=>n.kids.isNone
def qak (S:StD):List Nat:=(qdY S.L S.L.length 0).filter (qa9 S.L)
theorem qaz.pre {L:List NdD} (hK:qdX L) {k:Nat} {t:TrT} {P:List Nat} (h:qaz L k t P): ∀f,L.length-k≤f→qdY L f k=P:=by
 induction h with
 |leaf k n h1 h2=>
  intro f hf;have:=(List.getElem?_eq_some_iff.1 h1).1;obtain⟨g,rfl⟩: ∃g,f=g+1:=⟨f-1,by omega⟩
  unfold qdY;rw[h1];simp only[h2]
 |node k n p q r s a b c e P Q R S h1 h2 _ _ _ _ i1 i2 i3 i4=>
  intro f hf;have:=(List.getElem?_eq_some_iff.1 h1).1;have hk:=hK k n p q r s h1 h2;obtain⟨g,rfl⟩: ∃g,f=g+1:=⟨f-1,by omega⟩
  unfold qdY;rw[h1];simp only[h2];rw[i1 g (by omega),i2 g (by omega),i3 g (by omega),i4 g (by omega)]
theorem Whole.pre {S:StD} (h:Whole S): ∃T,qaz S.L 0 T (qdY S.L S.L.length 0)∧(qdY S.L S.L.length 0).Perm (List.range S.L.length):=by
 obtain⟨T,P,h1,h2⟩:=h.tree;rw[h1.pre h.kids S.L.length (by omega)];exact⟨T,h1,h2⟩
theorem Whole.qiJ {S:StD} (h:Whole S):(qdY S.L S.L.length 0).length=S.L.length:=by
 obtain⟨T,_,h2⟩:=h.pre;rw[h2.length_eq,List.length_range]
theorem qbD {S:StD} (h:Whole S): ∀k∈qak S,k<S.L.length:=by
 intro k hk;obtain⟨T,h1,_⟩:=h.pre;exact h1.lt k (List.mem_filter.1 hk).1
theorem qc {S:StD} (h:Whole S):(qak S).length≤S.L.length:=by
 rw[←h.qiJ];exact List.length_filter_le _ _
inductive qdC (L:List NdD):List Nat→List Nat→Prop
 |nil:qdC L [] []
 |cons (k:Nat) (t:TrT) (P ks R:List Nat):qaz L k t P→qdC L ks R→qdC L (k::ks) (P++R)
theorem qdC.qpb {L:List NdD} {R:List Nat} (h:qdC L [] R):R=[]:=by cases h;rfl
theorem qdC.next {L:List NdD} {k:Nat} {ks R:List Nat} (h:qdC L (k::ks) R): ∃n R',L[k]? =some n∧R=k::R'∧((n.kids=none∧qdC L ks R')∨∃p q r s,n.kids=some (p,q,r,s)∧qdC L (p::q::r::s::ks) R'):=by
 cases h with
 |cons _ t P _ R h1 h2=>
  cases h1 with
  |leaf _ n a1 a2=>exact⟨n,R,a1,rfl,.inl ⟨a2,h2⟩⟩
  |node _ n p q r s a b c e P Q X Y a1 a2 b1 b2 b3 b4=>
   refine⟨n,P++(Q++(X++(Y++R))),a1,by simp,.inr ⟨p,q,r,s,a2,?_⟩⟩;exact .cons _ _ _ _ _ b1 (.cons _ _ _ _ _ b2 (.cons _ _ _ _ _ b3 (.cons _ _ _ _ _ b4 h2)))
theorem qdC.le {L:List NdD} {ks R:List Nat} (h:qdC L ks R):ks.length≤R.length:=by
 induction h with
 |nil=>simp
 |cons k t P ks R h1 _ ih=>have:=h1.size;have:=t.size_pos;simp;omega
theorem qdC.one {L:List NdD} {k:Nat} {t:TrT} {P:List Nat} (h:qaz L k t P):qdC L [k] P:=by
 have:=qdC.cons k t P [] [] h .nil;simpa using this
structure qch (S:StD) (ks done R:List Nat):Prop where
 all:qdY S.L S.L.length 0=done++R
 pile:qdC S.L ks R
theorem qch.start {S:StD} (h:Whole S):qch S [0] [] (qdY S.L S.L.length 0):=by
 obtain⟨T,h1,_⟩:=h.pre;exact⟨rfl,.one h1⟩
theorem qch.next {S:StD} {k:Nat} {ks done R:List Nat} (h:qch S (k::ks) done R): ∃n R',S.L[k]? =some n∧R=k::R'∧((n.kids=none∧qch S ks (done++[k]) R')∨∃p q r s,n.kids=some (p,q,r,s)∧qch S (p::q::r::s::ks) (done++[k]) R'):=by
 obtain⟨n,R',h1,h2,h3⟩:=h.pile.next;have e:qdY S.L S.L.length 0=(done++[k])++R':=by rw[h.all,h2];simp
 exact⟨n,R',h1,h2,h3.imp (fun h3=>⟨h3.1,e,h3.2⟩) (fun⟨p,q,r,s,h4,h5⟩=>⟨p,q,r,s,h4,e,h5⟩)⟩
theorem qch.end_ {S:StD} {done R:List Nat} (h:qch S [] done R):done.filter (qa9 S.L)=qak S∧R=[]:=by
 have h1:=h.pile.qpb;subst h1;refine⟨?_,rfl⟩;unfold qak;rw[h.all];simp
theorem qch.leaf {S:StD} {k:Nat} {done R:List Nat} {n:NdD} (h:qdY S.L S.L.length 0=(done++[k])++R) (hk:S.L[k]? =some n) (hn:n.kids=none):(done++[k]).filter (qa9 S.L)=done.filter (qa9 S.L)++[k]∧∃t,qak S=done.filter (qa9 S.L)++k::t:=by
 have hb:qa9 S.L k=true:=by unfold qa9;rw[hk];simp[hn]
 refine⟨by rw[List.filter_append];simp[hb],R.filter (qa9 S.L),?_⟩;unfold qak;rw[h,List.filter_append,List.filter_append];simp[hb]
theorem qch.node {S:StD} {k:Nat} {done:List Nat} {n:NdD} (hk:S.L[k]? =some n) (hn:n.kids.isSome=true):(done++[k]).filter (qa9 S.L)=done.filter (qa9 S.L):=by
 have hb:qa9 S.L k=false:=by unfold qa9;rw[hk];cases h:n.kids with
  |none=>rw[h]at hn;cases hn
  |some x=>simp[h]
 rw[List.filter_append];simp[hb]
theorem qiY (n i:Nat) (h:i<(qdv 256 n).length):(qdv 256 n)[i]? =some (n / 256 ^ i % 256):=by
 have hd:=qcx (B:=256) (by omega) n;obtain⟨x,hx⟩: ∃x,(qdv 256 n)[i]? =some x:=⟨_,List.getElem?_eq_getElem h⟩
 rw[hx,←qeC _ (by omega) hd.ok i x hx,hd.val]
theorem qpu {n k:Nat} (h:qbt n k):(qdv 256 n).length=(k+7) / 8:=by
 have e256: ∀m,256 ^ m=2 ^ (8*m):=fun m=>by rw[Nat.pow_mul]
 apply Nat.le_antisymm
 ·rw [qbM (by omega),e256]
  exact Nat.lt_of_lt_of_le h.1 (Nat.pow_le_pow_right (by omega) (by omega))
 ·by_cases hk:k=0
  ·subst hk;simp
  ·have h1:=h.2 hk
   have h2: ¬(qdv 256 n).length≤(k+7) / 8-1:=by
    rw[qbM (by omega),e256];have:2 ^ (8*((k+7) / 8-1))≤2 ^ (k-1):=Nat.pow_le_pow_right (by omega) (by omega);omega
   omega
theorem qe1 {L:List UInt8} {n:Nat} (hl:L.length=(qdv 256 n).length) (h: ∀i,i<L.length→L[L.length-1-i]? =some (UInt8.ofNat (n / 256 ^ i % 256))):L=qaB n:=by
 apply List.ext_getElem?;intro j;by_cases hj:j<L.length
 ·have h1:=h (L.length-1-j) (by omega)
  rw[show L.length-1-(L.length-1-j)=j by omega]at h1;rw[h1];unfold qaB;rw[List.getElem?_map,List.getElem?_reverse (by omega),←hl,qiY n _ (by omega)];rfl
 ·rw [List.getElem?_eq_none (by omega),List.getElem?_eq_none (by rw[qaT];omega)]
theorem qnQ (q:Nat):4294967296 ^ q=2 ^ (32*q):=by rw[Nat.pow_mul]
theorem qj (q:Nat):256 ^ q=2 ^ (8*q):=by rw[Nat.pow_mul]
theorem qhD {D:List Nat} {n i d:Nat} (hD: ∀x∈D,x<4294967296) (hv:qab 4294967296 D=n) (hd:D[i / 4]? =some d):d / 2 ^ (8*(i % 4)) % 256=n / 256 ^ i % 256:=by
 have h1:=qeC D (by omega) hD (i / 4) d hd;rw[hv]at h1;rw[←h1,qnQ,qj]
 have e:4294967296=2 ^ (8*(i % 4))*2 ^ (32-8*(i % 4)):=by
  rw[←Nat.pow_add,show 8*(i % 4)+(32-8*(i % 4))=32 by omega]
 have h2:n / 2 ^ (32*(i / 4)) % 4294967296 / 2 ^ (8*(i % 4))=n / 2 ^ (32*(i / 4)) / 2 ^ (8*(i % 4)) % 2 ^ (32-8*(i % 4)):=by
  rw[e,Nat.mod_mul_right_div_self]
 rw[h2,Nat.div_div_eq_div_mul,←Nat.pow_add,show 32*(i / 4)+8*(i % 4)=8*i by omega]
 have h3:2 ^ (32-8*(i % 4))=256*2 ^ (24-8*(i % 4)):=by
  rw[show 32-8*(i % 4)=8+(24-8*(i % 4)) by omega,Nat.pow_add]
 rw[h3,Nat.mod_mul_right_mod]
theorem qkJ {D:List Nat} {V k d:Nat} (hD: ∀x∈D,x<4294967296) (hv:qab 4294967296 D=256 ^ (k+1)*V) (hd:D[k / 4]? =some d) (c:Nat) (hc:c<256):d ||| (c*2 ^ (8*(k % 4)))=d+c*2 ^ (8*(k % 4))∧d+c*2 ^ (8*(k % 4))<4294967296:=by
 have h1:=qeC D (by omega) hD (k / 4) d hd;rw[hv,qnQ,qj]at h1
 have e1:2 ^ (8*(k+1))=2 ^ (32*(k / 4))*2 ^ (8*(k % 4+1)):=by
  rw[←Nat.pow_add];congr 1;omega
 rw[e1,Nat.mul_assoc,Nat.mul_div_cancel_left _ (Nat.pow_pos (by omega))]at h1
 have e2:4294967296=2 ^ (8*(k % 4+1))*2 ^ (24-8*(k % 4)):=by
  rw[←Nat.pow_add,show 8*(k % 4+1)+(24-8*(k % 4))=32 by omega]
 rw[e2,Nat.mul_mod_mul_left]at h1;obtain⟨s,hs⟩: ∃s,s=V % 2 ^ (24-8*(k % 4)):=⟨_,rfl⟩
 have hs2:s<2 ^ (24-8*(k % 4)):=by rw[hs];exact Nat.mod_lt _ (Nat.pow_pos (by omega))
 rw[←hs]at h1
 have h3:c*2 ^ (8*(k % 4))<2 ^ (8*(k % 4+1)):=by
  rw[show 8*(k % 4+1)=8*(k % 4)+8 by omega,Nat.pow_add,Nat.mul_comm (2 ^ _)];exact Nat.mul_lt_mul_of_pos_right hc (Nat.pow_pos (by omega))
 refine⟨?_,?_⟩
 ·rw [←h1,Nat.mul_comm (2 ^ _) s,qoH s _ _ h3]
 ·have h4:2 ^ (8*(k % 4+1))*(s+1)≤2 ^ (8*(k % 4+1))*2 ^ (24-8*(k % 4)):=Nat.mul_le_mul_left _ hs2
  rw[←e2,Nat.mul_add,Nat.mul_one,h1]at h4;omega
theorem qnt {B:Nat} (l:List Nat) (p r d:Nat) (h:l[p]? =some r):qab B (l.set p (r+d))=qab B l+B ^ p*d:=by
 have h1: ∀(l:List Nat) (p:Nat),l[p]? =some r→qab B (l.set p (r+d))=qab B l+B ^ p*d:=by
  intro l;induction l with
  |nil=>intro p h;simp at h
  |cons x l ih=>
   intro p h;cases p with
   |zero=>simp at h;subst h;simp[qab];omega
   |succ p=>
    have:=ih p (by simpa using h);simp only[List.set_cons_succ,qab,this,Nat.pow_succ,Nat.mul_add];have e:B*(B ^ p*d)=B ^ p*B*d:=by ac_rfl
    rw[e,Nat.add_assoc]
 exact h1 l p h
theorem qk4 {D:List Nat} {V k d c:Nat} (hv:qab 4294967296 D=256 ^ (k+1)*V) (hd:D[k / 4]? =some d):qab 4294967296 (D.set (k / 4) (d+c*2 ^ (8*(k % 4))))=256 ^ k*(256*V+c):=by
 rw[qnt D _ _ _ hd,hv]
 have e:4294967296 ^ (k / 4)*(c*2 ^ (8*(k % 4)))=256 ^ k*c:=by
  rw[qnQ,qj,Nat.mul_comm c,←Nat.mul_assoc,←Nat.pow_add];congr 2;omega
 rw[e,Nat.pow_succ,Nat.mul_add,Nat.mul_assoc]
theorem qhj (l:List UInt8) (i:Nat) (x:UInt8) (h:l[i]? =some x):qc8 (l.take (i+1))=256*qc8 (l.take i)+x.toNat:=by
 unfold qc8;rw[List.take_add_one,h,Option.toList_some,List.reverse_append,List.reverse_singleton,List.singleton_append,List.map_cons,qab];omega
abbrev D8 :=Dig 256
def qaV (l:List Nat):List Value:=l.map fun x:Nat=>.int .i64 (x:Int)
theorem qgp (l:List Nat):(qaV l).length=l.length:=by simp[qaV]
theorem qnS (l:List Nat) (k x:Nat) (h:l[k]? =some x):(qaV l)[k]? =some (.int .i64 (x:Int)):=by simp[qaV,h]
theorem qnb (l:List Nat) (k:Nat):qaV (l.take k)=(qaV l).take k:=by simp[qaV,List.map_take]
theorem qnU (l:List Nat) (k x:Nat):qaV (l.set k x)=(qaV l).set k (.int .i64 (x:Int)):=by simp[qaV,List.map_set]
theorem qbZ (l:List Nat) (x:Nat):qaV (l++[x])=qaV l++[.int .i64 (x:Int)]:=by simp[qaV]
theorem qcl (x:Int): ∀u∈[Value.int .i64 x],u.oneCell'=true:=by
 intro u hu;rw[List.mem_singleton.1 hu];rfl
theorem qb8 {W:World} {A:Option Addr} {l:List Nat} (h:Row W A (qaV l)) {k x:Nat} (hx:l[k]? =some x): ∃b off,A=some ⟨b,off,none⟩∧W.cell? ⟨b,off+k,none⟩=some (.int .i64 (x:Int)):=by
 have hk:=(List.getElem?_eq_some_iff.1 hx).1;obtain⟨b,off,hA,hc⟩:=h.at_ (k:=k) (by rw[qgp];exact hk);refine⟨b,off,hA,?_⟩;rw[hc];have:=qnS l k x hx;rw[List.getElem?_eq_getElem (by rw[qgp];exact hk)]at this;exact this
def qbm (W:World) (v:Value) (n k:Nat):Prop:= ∃A c l,v=.slice A l.length c∧l.length≤c∧l.length≤k∧Row W A (qaV l)∧D8 l n
theorem qbm.kept {W W':World} {v:Value} {n k:Nat} (h:qbm W v n k) (hk:Kept W W'):qbm W' v n k:=by
 obtain⟨A,c,l,h1,h2,h3,h4,h5⟩:=h;exact⟨A,c,l,h1,h2,h3,h4.kept hk,h5⟩
theorem qbm.nil (W:World) (k:Nat):qbm W (.slice none 0 0) 0 k:=⟨none,0,[],rfl,by simp,by simp,.inl rfl,Dig.nil⟩
def atN (l:List Nat) (i:Nat):Nat:=l[i]?.getD 0
theorem qgX {l:List Nat} (h: ∀x∈l,x<256) (i:Nat):atN l i<256:=by
 unfold atN;cases hx:l[i]? with
 |none=>simp
 |some x=>exact h x (List.mem_of_getElem? hx)
theorem qec {l:List Nat} {i x:Nat} (h:l[i]? =some x):atN l i=x:=by unfold atN;rw[h];rfl
theorem qf5 {l:List Nat} {i:Nat} (h:l.length≤i):atN l i=0:=by unfold atN;rw[List.getElem?_eq_none h];rfl
theorem qcC {B:Nat} (l:List Nat) (i:Nat):qab B (l.take (i+1))=qab B (l.take i)+B ^ i*atN l i:=by
 cases hx:l[i]? with
 |none=>
  have:=List.getElem?_eq_none_iff.1 hx;rw[qf5 this,List.take_of_length_le this,List.take_of_length_le (by omega)];simp
 |some x=>rw[qec hx,qap l i x hx]
theorem qdT {D:List Nat} (h: ∀z∈D,z<256) {x:Nat} (hx:x<256): ∀z∈D++[x],z<256:=by
 intro z hz;rcases List.mem_append.1 hz with hz|hz
 ·exact h z hz
 ·rw [List.mem_singleton.1 hz];exact hx
theorem qpf {D:List Nat} {m x S:Nat} (h:qab 256 D+m*256 ^ D.length=S):
  qab 256 (D++[(m+x) % 256])+(m+x) / 256*256 ^ (D++[(m+x) % 256]).length=S+256 ^ D.length*x:=by
 rw[List.length_append,List.length_singleton];exact qev D m x S h
theorem qgO {D l l':List Nat} {m i:Nat} (hD:D.length=i) (h:qab 256 D+m*256 ^ D.length=qab 256 (l.take i)+qab 256 (l'.take i)):
  qab 256 (D++[(m+(atN l i+atN l' i)) % 256])+(m+(atN l i+atN l' i)) / 256*256 ^ (D++[(m+(atN l i+atN l' i)) % 256]).length=qab 256 (l.take (i+1))+qab 256 (l'.take (i+1)):=by
 rw[qpf h,qcC,qcC,hD,Nat.mul_add];omega
theorem qkb {D l:List Nat} {m i a r:Nat} (hD:D.length=i) (h:qab 256 D+m*256 ^ D.length=qab 256 (l.take i)*2 ^ r) (ha:l[i]? =some a):
  qab 256 (D++[(m+a*2 ^ r) % 256])+(m+a*2 ^ r) / 256*256 ^ (D++[(m+a*2 ^ r) % 256]).length=qab 256 (l.take (i+1))*2 ^ r:=by
 rw[qpf h,qap l i a ha,hD,Nat.add_mul,Nat.mul_assoc]
theorem qgq {D l l':List Nat} {cy i x cz:Nat} (hD:D.length=i) (h:qab 256 D+qab 256 (l'.take i)=qab 256 (l.take i)+cy*256 ^ D.length) (hx:x+atN l' i+cy=atN l i+cz*256):
  qab 256 (D++[x])+qab 256 (l'.take (i+1))=qab 256 (l.take (i+1))+cz*256 ^ (D++[x]).length:=by
 rw[qcC,qcC,qby,hD,List.length_append,List.length_singleton,hD,Nat.pow_succ];rw[hD]at h;have h3:256 ^ i*(x+atN l' i+cy)=256 ^ i*(atN l i+cz*256):=by rw[hx]
 rw[Nat.mul_add,Nat.mul_add,Nat.mul_add,Nat.mul_comm _ cy]at h3;have h4:cz*(256 ^ i*256)=256 ^ i*(cz*256):=by rw[←Nat.mul_assoc,Nat.mul_comm cz,Nat.mul_assoc]
 omega
theorem qka {D l l':List Nat} {cy n x y:Nat} (hD:D.length=n) (hok: ∀z∈D,z<256) (h:qab 256 D+qab 256 (l'.take n)=qab 256 (l.take n)+cy*256 ^ D.length) (hl:n=l.length) (hx:qab 256 l=x) (hl':l'.length≤n) (hy:qab 256 l'=y) (hxy:y≤x):qab 256 D=x-y:=by
 rw[List.take_of_length_le hl',List.take_of_length_le (show l.length≤n by omega),hx,hy]at h;have h2:=qcn D hok;rcases Nat.eq_zero_or_pos cy with rfl|hc
 ·omega
 ·have:256 ^ D.length*1≤cy*256 ^ D.length:=by rw[Nat.mul_comm];exact Nat.mul_le_mul_right _ hc
  omega
theorem qlZ {R l':List Nat} {cy p i j a r S:Nat} (hp:p=i+j) (hr:R[p]? =some r) (h:qab 256 R+cy*256 ^ p=S+256 ^ i*(a*qab 256 (l'.take j))):
  qab 256 (R.set p ((cy+(r+a*atN l' j)) % 256))+(cy+(r+a*atN l' j)) / 256*256 ^ (p+1)=S+256 ^ i*(a*qab 256 (l'.take (j+1))):=by
 have h1:=qfu (B:=256) R p r ((cy+(r+a*atN l' j)) % 256) hr;have h2:=Nat.mod_add_div (cy+(r+a*atN l' j)) 256;generalize hy:atN l' j=y at *
 have h3:256 ^ p*((cy+(r+a*y)) % 256)+(cy+(r+a*y)) / 256*256 ^ (p+1)=256 ^ p*(cy+(r+a*y)):=by
  conv=>rhs;rw[←h2]
  rw[Nat.mul_add,Nat.pow_succ];congr 1
  ac_rfl
 have h4:256 ^ p*(cy+(r+a*y))=cy*256 ^ p+256 ^ i*(a*(256 ^ j*y))+256 ^ p*r:=by
  rw[Nat.mul_add,Nat.mul_add,hp,Nat.pow_add,Nat.mul_comm cy];have:256 ^ i*256 ^ j*(a*y)=256 ^ i*(a*(256 ^ j*y)):=by ac_rfl
  omega
 rw[qcC,hy,Nat.mul_add,Nat.mul_add];omega
theorem qpl {R:List Nat} {p d:Nat} (h: ∀z∈R,z<256) (hd:d<256): ∀z∈R.set p d,z<256:=by
 intro z hz;rcases List.mem_or_eq_of_mem_set hz with hz|rfl
 ·exact h z hz
 ·exact hd
theorem qiF {l:List Nat} (hok: ∀x∈l,x<256) {i r:Nat} (hr:r<8) (hi:i<l.length):
  qab 256 l / 2 ^ r / 256 ^ i % 256=(atN l i+256*atN l (i+1)) / 2 ^ r % 256:=by
 have h1:qab 256 l / 256 ^ i=(atN l i+256*atN l (i+1))+2 ^ r*(256*(2 ^ (8-r)*qab 256 (l.drop (i+2)))):=by
  rw[←qeV l (by omega) hok i (by omega),List.drop_eq_getElem_cons hi,qab];have ha:atN l i=l[i]:=qec (List.getElem?_eq_getElem hi)
  have h2:qab 256 (l.drop (i+1))=atN l (i+1)+256*qab 256 (l.drop (i+2)):=by
   by_cases hi2:i+1<l.length
   ·rw [List.drop_eq_getElem_cons hi2,qab,qec (List.getElem?_eq_getElem hi2)]
   ·rw [List.drop_eq_nil_of_le (by omega),List.drop_eq_nil_of_le (by omega),qf5 (by omega)]
    simp[qab]
  have h3:2 ^ r*(256*(2 ^ (8-r)*qab 256 (l.drop (i+2))))=256*(256*qab 256 (l.drop (i+2))):=by
   have h4:2 ^ r*2 ^ (8-r)=256:=by rw[←Nat.pow_add,show r+(8-r)=8 by omega]
   rw[Nat.mul_left_comm,←Nat.mul_assoc (2 ^ r),h4]
  rw[h2,h3,Nat.mul_add,ha,Nat.add_assoc]
 rw[Nat.div_div_eq_div_mul,Nat.mul_comm (2 ^ r),←Nat.div_div_eq_div_mul,h1,Nat.add_mul_div_left _ _ (Nat.pow_pos (by omega)),Nat.add_mul_mod_self_left]
theorem qjz {V i:Nat} {D:List Nat} (hD:D.length=i) (h:qab 256 D=V % 256 ^ i):qab 256 (D++[V / 256 ^ i % 256])=V % 256 ^ (i+1):=by
 rw[qby,h,hD,Nat.pow_succ,Nat.mod_mul]
end Go.Proofs.YtfdnledkcongaaaGreatDoor
