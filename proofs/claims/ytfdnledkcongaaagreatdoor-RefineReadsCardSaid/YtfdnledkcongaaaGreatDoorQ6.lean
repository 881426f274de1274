/- Texts of one claim laid together: DoO, DoQ, GaK, GaN, GaW, LdW. -/
import Derived.Test.YtfdnledkcongaaaGreatDoorQ5
set_option linter.all false
namespace Go.Proofs.YtfdnledkcongaaaGreatDoor
open Go.RowKit Go.Proofs.Tryz
section
set_option maxHeartbeats 6400000
set_option maxRecDepth 100000
attribute [local go_sem] run_float_arith qaM qaN qaw qaf qad
theorem qmq {p:Nat} {e:Int}: ∃n:Nat,qam p e=(n:Int)-1074:=⟨(qam p e+1074).toNat,by
 have:qam p e=max ((p:Int)-1+e-52) (-1074):=rfl;omega⟩
def qcr (n:Nat) (e q:Int):Nat:=if q≤e then n*2 ^ (e-q).toNat else n / 2 ^ (q-e).toNat
section
variable {n p : Nat} {e : Int}
theorem qmt (hp:qbt n p):qcr n e (qam p e)<9007199254740992:=by
 have hl:qam p e=max ((p:Int)-1+e-52) (-1074):=rfl;unfold qcr;split
 ·rename_i h
  have h1:n*2 ^ (e-qam p e).toNat<2 ^ p*2 ^ (e-qam p e).toNat:=Nat.mul_lt_mul_of_pos_right hp.1 (Nat.pow_pos (by omega));rw[←Nat.pow_add]at h1;have h2:2 ^ (p+(e-qam p e).toNat)≤2 ^ 53:=Nat.pow_le_pow_right (by omega) (by omega);omega
 ·rename_i h
  rw[Nat.div_lt_iff_lt_mul (Nat.pow_pos (by omega)),show(9007199254740992:Nat)=2 ^ 53 by decide,←Nat.pow_add];exact Nat.lt_of_lt_of_le hp.1 (Nat.pow_le_pow_right (by omega) (by omega))
theorem qmx (hp:qbt n p) (h0:n≠0) (hq: -1074<qam p e):4503599627370496≤qcr n e (qam p e):=by
 have hl:qam p e=(p:Int)-1+e-52:=by
  have:qam p e=max ((p:Int)-1+e-52) (-1074):=rfl;omega
 have hp0:p≠0:=by rintro rfl;have:=hp.1;simp at this;exact h0 this
 have h3:=hp.2 hp0;unfold qcr;split
 ·rename_i h
  have h1:2 ^ (p-1)*2 ^ (e-qam p e).toNat≤n*2 ^ (e-qam p e).toNat:=Nat.mul_le_mul_right _ h3;rw[←Nat.pow_add,show p-1+(e-qam p e).toNat=52 by omega]at h1;exact h1
 ·rename_i h
  have h1:2 ^ (p-1) / 2 ^ (qam p e-e).toNat≤n / 2 ^ (qam p e-e).toNat:=Nat.div_le_div_right h3;rw[Nat.pow_div (by omega) (by omega),show p-1-(qam p e-e).toNat=52 by omega]at h1;exact h1
theorem qo3 {q:Int} (h:q≤e):qa8 n e q=qcr n e q:=by unfold qa8 qcr;rw[if_pos h,if_pos h]
theorem qmi {q:Int} (h: ¬q≤e) (hr:n % 2 ^ (q-e).toNat=0):qa8 n e q=qcr n e q:=by
 unfold qa8 qcr;rw[if_neg h,if_neg h];unfold qfR;have hp:0<2 ^ (q-e).toNat:=Nat.pow_pos (by omega);rw[hr,if_neg (by omega)];rfl
theorem qoF {q:Int} (h: ¬q≤e) (wh:Int) (hw:wh=2+qbG (n % 2 ^ (q-e).toNat * 2 ^ 1) (2 ^ (q-e).toNat)) (m:Nat) (hm:m=qcr n e q):
  (if wh<2∨(wh=2∧(decide (m % 2=0))=true)then m else m+1)=qa8 n e q:=by
 have e1:qcr n e q=n / 2 ^ (q-e).toNat:=by unfold qcr;rw[if_neg h]
 unfold qa8;rw[if_neg h];unfold qfR;rw[←e1,←hm];rw[Nat.pow_one,Nat.mul_comm]at hw;rcases Nat.lt_trichotomy (2*(n % 2 ^ (q-e).toNat)) (2 ^ (q-e).toNat)with h1|h1|h1
 ·rw [qcw h1]at hw
  rw[if_pos (.inl (by omega)),if_neg (by omega)];rfl
 ·rw [h1,qei]at hw
  by_cases h2:m % 2=0
  ·rw [if_pos (.inr ⟨by omega,decide_eq_true h2⟩),if_neg (by omega)];rfl
  ·rw [if_neg,if_pos (by omega)]
   rintro(h3|⟨-,h3⟩)
   ·omega
   ·exact h2 (of_decide_eq_true h3)
 ·rw [qdd h1]at hw
  rw[if_neg (by omega),if_pos (.inl h1)]
theorem qoz {q:Int} (h:n<2 ^ ((q-e).toNat-1)) (hq:0<(q-e).toNat):qa8 n e q=0:=by
 unfold qa8;rw[if_neg (by omega)];unfold qfR;obtain⟨k,hk⟩: ∃k,(q-e).toNat=k+1:=⟨(q-e).toNat-1,by omega⟩
 rw[hk]at h⊢;rw[Nat.add_sub_cancel]at h;have h2:n<2 ^ (k+1):=by rw[Nat.pow_succ];omega
 rw[Nat.div_eq_of_lt h2,Nat.mod_eq_of_lt h2,if_neg (by rw[Nat.pow_succ];omega)]
end
theorem qlc (d:DyD) (p:Nat) (w:World) (hd:qae d=true) (h0:d.num≠0) (hp:qbt d.num.natAbs p) (ht:1024≤(p:Int)-1+d.e):
  Calls prog 129 #[.agg #[.bool d.neg,.string d.n,.int .i64 d.e]] w fun en w'=>(∃a,en=.returned (.tuple #[.float .f64 a,.float .f64 qaS,.int .i64 3,.bool false]))∧Kept w w':=by
 have TX:=qh (fun W=>qeD d p W hd h0 hp);obtain⟨T,hT⟩: ∃T,T=(p:Int)-1+d.e:=⟨_,rfl⟩
 rw[←hT]at TX ht;have P1:Hid (∀W,Calls prog 163 #[.bool false,.int .u64 9007199254740991,.int .i64 971] W fun en w'=>en=.returned (.float .f64 (qaJ 9007199254740991 971))∧w'=W):=fun W=>qe9 9007199254740991 2045 W (by decide) (by decide) (.inl (by decide));have P2:Hid (∀W,Calls prog 163 #[.bool false,.int .u64 9007199254740992,.int .i64 971] W fun en w'=>en=.returned (.float .f64 qaS)∧w'=W):=fun W=>qe9 9007199254740992 2045 W (by decide) (by decide) (.inl (by decide));generalize qaJ 9007199254740991 971=a9 at *;obtain⟨xn,xs,xe⟩:=d;simp only at TX⊢;clear hd h0 hp hT;go_enter func129,ntmps129
 go_upto_region 1 with fail
 obtain⟨b,w1,hw,hb,B0,K1,HB⟩:=qa4 w (LC0 xn xs xe) 24;rw[←hw,←hb];clear hw hb;obtain⟨c0,c1,c2⟩:=B0.out.c3
 go_wp2_with (first
  |(go_at_call 123;(with_reducible refine(TX.out _).mono ?_);rintro e w3 ⟨rfl,hk3⟩;have K3:=qh (K1.out.trans' hk3);clear hk3)
  |(go_at_call 163;(with_reducible refine(P1.out _).mono ?_);rintro e w4 ⟨rfl,hw⟩;replace hw:=hw.symm;subst hw)
  |(go_at_call 163;(with_reducible refine(P2.out _).mono ?_);rintro e w4 ⟨rfl,hw⟩;replace hw:=hw.symm;subst hw))
 exact bodyPost_ret (v:=.tuple #[.float .f64 a9,.float .f64 qaS,.int .i64 3,.bool false]) (by simp[results,results129,go_sem]) rfl ⟨⟨_,rfl⟩,K3.out⟩
theorem qlx (d:DyD) (p:Nat) (w:World) (hd:qae d=true) (h0:d.num≠0) (hp:qbt d.num.natAbs p) (ht:(p:Int)-1+d.e<1024):
  Calls prog 129 #[.agg #[.bool d.neg,.string d.n,.int .i64 d.e]] w fun en w'=> ∃(m:Nat) (wh:Int) (ev:Bool),en=.returned (.tuple #[.float .f64 (qaJ m (qam p d.e)),.float .f64 (qaJ (m+1) (qam p d.e)),.int .i64 wh,.bool ev])∧(if wh<2∨(wh=2∧ev=true)then m else m+1)=qa8 d.num.natAbs d.e (qam p d.e)∧Kept w w':=by
 have TX:=qh (fun W=>qeD d p W hd h0 hp);have OX:=qh (fun W=>qkR hd W);have hxe:=(qaj hd).2.2.2;have hp9:p≤8*16384:=qcT hp (qaj hd).1;obtain⟨xn,xs,xe⟩:=d;simp only at TX OX hxe ht⊢;obtain⟨N,hN⟩: ∃N,N=(DyD.mk xn xs xe).num.natAbs:=⟨_,rfl⟩
 have hN0:N≠0:=by omega
 rw[←hN]at OX hp⊢;have hlt:=qmt (e:=xe) hp;have hge:=qmx (e:=xe) hp hN0;obtain⟨Q,hQ⟩: ∃Q,Q=qam p xe:=⟨_,rfl⟩
 obtain⟨nn,hnn⟩:=qmq (p:=p) (e:=xe);rw[←hQ]at hlt hge hnn⊢;have hQ2:Q=max ((p:Int)-1+xe-52) (-1074):=hQ;obtain⟨T,hT⟩: ∃T,T=(p:Int)-1+xe:=⟨_,rfl⟩
 rw[←hT]at TX ht hQ2;have hn9:nn≤2045:=by omega
 have PK:Hid (∀ (m:Nat) W,m≤9007199254740992→(4503599627370496≤m∨nn=0)→Calls prog 163 #[.bool false,.int .u64 (m:Int),.int .i64 Q] W fun en w'=>en=.returned (.float .f64 (qaJ m Q))∧w'=W):=fun m W h1 h2=>by
  rw[hnn];exact qe9 m nn W h1 hn9 h2
 obtain⟨M,hM⟩: ∃M,M=qcr N xe Q:=⟨_,rfl⟩
 rw[←hM]at hlt hge;have PK1:Hid (∀W,Calls prog 163 #[.bool false,.int .u64 (M:Int),.int .i64 Q] W fun en w'=>en=.returned (.float .f64 (qaJ M Q))∧w'=W):=fun W=>PK.out M W (by omega) (by rcases Nat.eq_zero_or_pos nn with h|h;exact .inr h;exact .inl (hge (by omega)));have PK2:Hid (∀W,Calls prog 163 #[.bool false,.int .u64 ((M:Int)+1),.int .i64 Q] W fun en w'=>en=.returned (.float .f64 (qaJ (M+1) Q))∧w'=W):=fun W=>PK.out (M+1) W (by omega) (by rcases Nat.eq_zero_or_pos nn with h|h;exact .inr h;exact .inl (by have:=hge (by omega);omega));have PK3:Hid (nn=0→∀W,Calls prog 163 #[.bool false,.int .u64 1,.int .i64 Q] W fun en w'=>en=.returned (.float .f64 (qaJ 1 Q))∧w'=W):=fun h W=>PK.out 1 W (by omega) (.inr h);have i1: ¬(1024:Int)≤T:=by omega
 have ew1:IntKind.i64.wrap (T-52)=T-52:=IntWalk.i64_in _ (by omega);have i1b:decide ((1024:Int)≤T)=false:=decide_eq_false i1;have emx:max (T-52) (-1074)=Q:=hQ2.symm;have HQ:=qh (And.intro hnn (And.intro hQ2 hT));have HP:=qh hp;have HMM:=qh hM;have hQb: -1074≤Q∧Q≤971:=by omega
 have hQx:Q≤xe→xe-Q≤1000:=fun h=>by have:=hp.2;rcases Nat.eq_zero_or_pos p with h5|h5<;>omega
 have hQy:xe<Q→Q-xe≤2000000:=fun h=>by omega
 clear hd h0 hp hN hQ hnn hQ2 hT hge hM PK;go_enter func129,ntmps129
 go_upto_region 1 with fail
 obtain⟨b,w1,hw,hb,B0,K1,HB⟩:=qa4 w (LC0 xn xs xe) 24;rw[←hw,←hb];clear hw hb;obtain⟨c0,c1,c2⟩:=B0.out.c3;go_upto_region 4 with (go_at_call 123;(with_reducible refine(TX.out _).mono ?_);rintro e w3 ⟨rfl,hk3⟩)
 obtain⟨c0,c1,c2⟩:=(B0.out.kept hk3).c3;have K3:=qh (K1.out.trans' hk3);have B3:=qh (B0.out.kept hk3);clear hk3;go_upto_region 7 with (go_at_call 124;(with_reducible refine(OX.out _).mono ?_);rintro e w5 ⟨A,c,l,rfl,hlc,hl,hr,hdl,hk5⟩)
 obtain⟨c0,c1,c2⟩:=(B3.out.kept hk5).c3;have K5:=qh (K3.out.trans' hk5);have B5:=qh (B3.out.kept hk5);have VX:Hid (qbm w5 (.slice A l.length c) N 16384):=⟨A,c,l,rfl,hlc,hl,hr,hdl⟩
 obtain⟨L,hL⟩: ∃L,L=l.length:=⟨_,rfl⟩
 rw[←hL]at VX⊢;have hLb:L≤16384:=by omega
 have HD:=qh (And.intro hL hdl);have HR5:=qh hr;clear hlc hl hr hdl hL B3 K3 B0 OX TX;have R5:=HR5;by_cases hq:Q≤xe
 ·have hq1:=hQx hq
  obtain⟨k,hk⟩: ∃k,k=(xe-Q).toNat:=⟨_,rfl⟩
  have hkI:IntKind.i64.wrap (xe-Q)=(k:Int):=by rw[IntWalk.i64_in _ (by omega)];omega
  have hkb:k≤1000:=by omega
  have HM2:=qh (show M=N*2 ^ k by rw[HMM.out,hk];unfold qcr;rw[if_pos hq]);have KEEP:=qh (show qa8 N xe Q=M by rw[HMM.out];exact qo3 hq);clear hk hQx hQy;go_upto_region 9 with (go_at_call 125;(with_reducible refine(qfk VX.out (by omega) k (by omega)).mono ?_);rintro e w6 ⟨vw,rfl,hvw,hk6⟩)
  have VW:=qh (hvw.kept (Kept.new (Below.refl _ w6) (.cells #[.int .i64 1] 3)));have HKK:=qh (Kept.new (K5.out.trans' hk6) (.cells #[.int .i64 1] 3));clear hvw hk6;go_upto_region 17 with fail
  generalize World.alloc w6 _=WQ at *;obtain⟨AW,cW,LW,rfl,hWc,hWl,hWr,hWd⟩:=VW.out;obtain⟨lw,hlw⟩: ∃n,n=LW.length:=⟨_,rfl⟩
  rw[←hlw]at hWc hWl⊢;have HLW:=qh hlw;have RW:=qh hWr;have DW:Hid (D8 LW M):=by rw[HM2.out];exact hWd
  have hlwb:lw≤100000:=by omega
  clear hlw hWr hWd hWl hWc;go_wp2_with fail
  go_loopg [14,15] lw (fun gh v14 v15 wr=>v15=.int .i64 ((gh:Int)-1)∧gh≤lw∧v14=.int .u64 (qab 256 (LW.drop gh):Nat)∧wr=WQ)
  case atStart=>exact⟨by go_num,Nat.le_refl _,by rw[List.drop_eq_nil_of_le (by have:=HLW.out;omega)];rfl,rfl⟩
  case round=>
   obtain⟨rfl,hgn,rfl,rfl⟩:=hrel;cases gk with
   |zero=>
    have hM:qab 256 (LW.drop 0)=M:=by rw[List.drop_zero];exact DW.out.val
    rw[hM];clear hM
    go_wp2_with (first
     |(go_at_call 163;(with_reducible refine(PK1.out _).mono ?_);rintro e w4 ⟨rfl,hw⟩;replace hw:=hw.symm;subst hw)
     |(go_at_call 163;(with_reducible refine(PK2.out _).mono ?_);rintro e w4 ⟨rfl,hw⟩;replace hw:=hw.symm;subst hw))
    exact bodyPost_ret (v:=.tuple #[.float .f64 (qaJ M Q),.float .f64 (qaJ (M+1) Q),.int .i64 0,.bool (decide (M % 2=0))]) (by simp[results,results129,go_sem];rw[Bool.eq_iff_iff];simp;omega) rfl ⟨M,0,decide (M % 2=0),rfl,by rw[if_pos (.inl (by omega))];exact KEEP.out.symm,HKK.out⟩
   |succ gh=>
    obtain⟨x,hx⟩: ∃x,LW[gh]? =some x:=⟨_,List.getElem?_eq_getElem (by have:=HLW.out;omega)⟩
    obtain⟨bx,ox,hA,cx⟩:=qb8 RW.out hx;first|subst hA|cases hA
    have hxb:=DW.out.ok x (List.mem_of_getElem? hx);have hst:=drop_step hx;have hle:=qiC (l:=LW) (i:=gh);rw[DW.out.val]at hle;obtain⟨z,hz⟩: ∃z,z=qab 256 (LW.drop (gh+1)):=⟨_,rfl⟩
    obtain⟨y,hy⟩: ∃y,y=qab 256 (LW.drop gh):=⟨_,rfl⟩
    rw[←hz,←hy]at hst;rw[←hy]at hle;rw[←hz];have HY:=qh (And.intro hy hst);have hzb:256*z+x<9007199254740992:=by omega
    have hg1:((gh:Int)+1-1)=gh:=by omega
    have hg2:(0:Int)≤gh:=by omega
    have hg3:(gh:Int)<lw:=by omega
    have hw5:IntKind.u64.wrap (x:Int)=(x:Int):=by rw[IntKind.wrap_u64];omega
    clear hst hle hz hy hx;go_wp2_with fail
    go_roundg gh
    case measure=>omega
    case rel=>exact⟨by go_num,by omega,by rw[←HY.out.1,HY.out.2];first|rfl|(congr 1;omega),rfl⟩
 ·have hq1:=hQy (by omega)
  obtain⟨k,hk⟩: ∃k,k=(Q-xe).toNat:=⟨_,rfl⟩
  have hkI:IntKind.i64.wrap (Q-xe)=(k:Int):=by rw[IntWalk.i64_in _ (by omega)];omega
  have hkb:k≤2000000:=by omega
  have hk0:0<k:=by omega
  have HM2:=qh (show M=N / 2 ^ k by rw[HMM.out,hk];unfold qcr;rw[if_neg hq]);by_cases hf:8*L<k
  ·have hfI:(8:Int)*L<k:=by omega
   have HF:=qh (show qa8 N xe Q=0∧Q= -1074 by
    have hl1:N<2 ^ (8*L):=by rw[←qj,HD.out.1];exact HD.out.2.lt
    have hpL:p≤8*L:=by
     rcases Nat.eq_zero_or_pos p with h5|h5
     ·omega
     ·have h6:=HP.out.2 (by omega)
      have h7:2 ^ (p-1)<2 ^ (8*L):=Nat.lt_of_le_of_lt h6 hl1;have:=(Nat.pow_lt_pow_iff_right (show 1<2 by omega)).1 h7;omega
    have hQQ:=HQ.out.2.1;have hTT:=HQ.out.2.2;refine⟨qoz (Nat.lt_of_lt_of_le hl1 (Nat.pow_le_pow_right (by omega) (by omega))) (by omega),by omega⟩)
   have HN0:=qh (show nn=0 by have:=HQ.out.1;have:=HF.out.2;omega);have P3:=qh (PK3.out HN0.out);have HZ:=qh (show qaJ 0 Q=0 by rw[HF.out.2];decide);clear PK3 PK1 PK2 hQx hQy hk;go_wp2_with (go_at_call 163;(with_reducible refine(P3.out _).mono ?_);rintro e w6 ⟨rfl,hw⟩;replace hw:=hw.symm;subst hw)
   exact bodyPost_ret (v:=.tuple #[.float .f64 0,.float .f64 (qaJ 1 Q),.int .i64 1,.bool true]) (by simp[results,results129,go_sem]) rfl ⟨0,1,true,by rw[HZ.out],by rw[if_pos (.inl (by omega))];exact HF.out.1.symm,K5.out.trans' (Kept.new (Below.refl _ _) _)⟩
  ·have hfI: ¬(8:Int)*L<k:=by omega
   have HAL:Hid (Calls prog 164 #[.slice A L c,.int .i64 (k:Int)] w5 fun e w'=> ∃v,e=.returned v∧qbm w' v M 16384∧Kept w5 w'):=by
    rw[HM2.out,HD.out.1];refine(qgU A c l N k w5 (by have:=HD.out.1;omega) (by have:=HD.out.1;omega) R5.out HD.out.2).mono ?_;rintro e w' ⟨v,h1,⟨A2,c2,l2,r1,r2,r3,r4⟩,hk⟩;exact⟨v,h1,⟨A2,c2,l2,r1,r2,by have:=HD.out.1;omega,r4⟩,hk⟩
   have hMle:M*2 ^ k≤N:=by rw[HM2.out];exact Nat.div_mul_le_self _ _
   have hRm:N-M*2 ^ k=N % 2 ^ k:=by
    have:=Nat.div_add_mod N (2 ^ k);rw[←HM2.out,Nat.mul_comm]at this;omega
   have HK:=qh hk;have HQN:=qh (show¬Q≤xe by omega);have HMle:=qh hMle;have HRm:=qh hRm;clear hk hQx hQy hMle hRm;go_upto_region 15 with (go_at_call 164;(with_reducible refine HAL.out.mono ?_);rintro e w6 ⟨vw,rfl,hvw,hk6⟩)
   have VW:=qh hvw;have VX6:=qh (VX.out.kept hk6);have K6:=qh (K5.out.trans' hk6);clear hvw hk6 HAL VX c0 c1 c2
   go_upto_region 16 with (first
    |(go_at_call 125;(with_reducible refine(qfk VW.out (by omega) k (by omega)).mono ?_);rintro e w7 ⟨vt,rfl,hvt,hk7⟩;have VT:=qh hvt;have VW7:=qh (VW.out.kept hk7);have VX7:=qh (VX6.out.kept hk7);have K7:=qh (K6.out.trans' hk7);clear hvt hk7)
    |(go_at_call 137;(with_reducible refine(qiS VX7.out VT.out (by omega) HMle.out).mono ?_);rintro e w8 ⟨vr,rfl,hvr,hk8⟩;have VR:=qh hvr;have VW8:=qh (VW7.out.kept hk8);have K8:=qh (K7.out.trans' hk8);clear hvr hk8))
   rw[HRm.out]at VR;clear VT VW7 VX7 K7 VX6 VW;have ONE:=qh (qps w8);have KO:=qh (Kept.new (Below.refl _ w8) (.cells #[.int .i64 1] 3));go_upto_region 17 with (go_at_call 125;(with_reducible refine(qfk ONE.out (by omega) k (by omega)).mono ?_);rintro e w9 ⟨vo,rfl,hvo,hk9⟩)
   have VO:=qh hvo;have KQ:=qh (KO.out.trans' hk9);rw[Nat.one_mul]at VO;have VW:=qh (VW8.out.kept KQ.out);have VRR:=qh (VR.out.kept KQ.out);have HKK:=qh (K8.out.trans' KQ.out);clear hvo hk9 VW8 VR K8 KQ KO ONE K6 K5;obtain⟨WQ,hWQ⟩: ∃W,W=w9:=⟨_,rfl⟩
   subst hWQ;obtain⟨AR,cR,LR,rfl,hRc,hRl,hRr,hRd⟩:=VRR.out;have VR2:Hid (qbm WQ (.slice AR LR.length cR) (N % 2 ^ k) 16384):=⟨AR,cR,LR,rfl,hRc,hRl,hRr,hRd⟩
   obtain⟨lr,hlr⟩: ∃n,n=LR.length:=⟨_,rfl⟩
   rw[←hlr]at VR2⊢;by_cases hlr0:lr=0
   ·have hR0:N % 2 ^ k=0:=(hRd.qci (by omega)).1 (List.eq_nil_of_length_eq_zero (by omega))
    have KEEP:=qh (show qa8 N xe Q=M by rw[HMM.out];exact qmi (by have:=HQN.out;omega) (by rw[←HK.out];exact hR0));subst hlr0;clear hRr hRd hRc hRl hlr VRR hR0;obtain⟨AW,cW,LW,rfl,hWc,hWl,hWr,hWd⟩:=VW.out;obtain⟨lw,hlw⟩: ∃n,n=LW.length:=⟨_,rfl⟩
    rw[←hlw]at hWc hWl⊢;have HLW:=qh hlw;have RW:=qh hWr;have DW:Hid (D8 LW M):=hWd;have hlwb:lw≤100000:=by omega
    clear hlw hWr hWd hWl hWc;go_wp2_with fail
    go_loopg [14,15] lw (fun gh v14 v15 wr=>v15=.int .i64 ((gh:Int)-1)∧gh≤lw∧v14=.int .u64 (qab 256 (LW.drop gh):Nat)∧wr=WQ)
    case atStart=>exact⟨by go_num,Nat.le_refl _,by rw[List.drop_eq_nil_of_le (by have:=HLW.out;omega)];rfl,rfl⟩
    case round=>
     obtain⟨rfl,hgn,rfl,rfl⟩:=hrel;cases gk with
     |zero=>
      have hM:qab 256 (LW.drop 0)=M:=by rw[List.drop_zero];exact DW.out.val
      rw[hM];clear hM
      go_wp2_with (first
       |(go_at_call 163;(with_reducible refine(PK1.out _).mono ?_);rintro e w4 ⟨rfl,hw⟩;replace hw:=hw.symm;subst hw)
       |(go_at_call 163;(with_reducible refine(PK2.out _).mono ?_);rintro e w4 ⟨rfl,hw⟩;replace hw:=hw.symm;subst hw))
      exact bodyPost_ret (v:=.tuple #[.float .f64 (qaJ M Q),.float .f64 (qaJ (M+1) Q),.int .i64 0,.bool (decide (M % 2=0))]) (by simp[results,results129,go_sem];rw[Bool.eq_iff_iff];simp;omega) rfl ⟨M,0,decide (M % 2=0),rfl,by rw[if_pos (.inl (by omega))];exact KEEP.out.symm,HKK.out⟩
     |succ gh=>
      obtain⟨x,hx⟩: ∃x,LW[gh]? =some x:=⟨_,List.getElem?_eq_getElem (by have:=HLW.out;omega)⟩
      obtain⟨bx,ox,hA,cx⟩:=qb8 RW.out hx;first|subst hA|cases hA
      have hxb:=DW.out.ok x (List.mem_of_getElem? hx);have hst:=drop_step hx;have hle:=qiC (l:=LW) (i:=gh);rw[DW.out.val]at hle;obtain⟨z,hz⟩: ∃z,z=qab 256 (LW.drop (gh+1)):=⟨_,rfl⟩
      obtain⟨y,hy⟩: ∃y,y=qab 256 (LW.drop gh):=⟨_,rfl⟩
      rw[←hz,←hy]at hst;rw[←hy]at hle;rw[←hz];have HY:=qh (And.intro hy hst);have hzb:256*z+x<9007199254740992:=by omega
      have hg1:((gh:Int)+1-1)=gh:=by omega
      have hg2:(0:Int)≤gh:=by omega
      have hg3:(gh:Int)<lw:=by omega
      have hw5:IntKind.u64.wrap (x:Int)=(x:Int):=by rw[IntKind.wrap_u64];omega
      clear hst hle hz hy hx;go_wp2_with fail
      go_roundg gh
      case measure=>omega
      case rel=>exact⟨by go_num,by omega,by rw[←HY.out.1,HY.out.2];first|rfl|(congr 1;omega),rfl⟩
   ·have hlrI:(0:Int)<lr:=by omega
    have hlrb:lr≤16384:=by omega
    have SHR:Hid (∀W,Kept WQ W→Calls prog 125 #[.slice AR lr cR,.int .i64 1] W fun e w'=> ∃u,e=.returned u∧qbm w' u (N % 2 ^ k*2 ^ 1) 16386∧Kept W w'):=fun W hW=>(qfk (VR2.out.kept hW) (by omega) 1 (by omega)).mono fun e w' ⟨u,h1,⟨A,c,l,q1,q2,q3,q4⟩,h3⟩=>⟨u,h1,⟨A,c,l,q1,q2,by omega,q4⟩,h3⟩
    obtain⟨cc,hcc⟩: ∃cc,cc=qbG (N % 2 ^ k*2 ^ 1) (2 ^ k):=⟨_,rfl⟩
    have hccb: -1≤cc∧cc≤1:=by rw[hcc];unfold qbG;split;omega;split<;>omega
    have CMP:Hid (∀W v,Kept WQ W→qbm W v (N % 2 ^ k*2 ^ 1) 16386→Calls prog 126 #[v,vo] W fun e w'=>e=.returned (.int .i64 cc)∧Kept W w'):=fun W v hW h=>by
     rw[hcc];exact qlS h (VO.out.kept hW) (by omega) (by omega)
    have KEEP:=qh (show¬Q≤xe∧2+cc=2+qbG (N % 2 ^ (Q-xe).toNat * 2 ^ 1) (2 ^ (Q-xe).toNat)∧M=qcr N xe Q from⟨by have:=HQN.out;omega,by rw[←HK.out,hcc],HMM.out⟩);clear hRr hRd hRc hRl hlr VRR hcc hlr0;obtain⟨AW,cW,LW,rfl,hWc,hWl,hWr,hWd⟩:=VW.out;obtain⟨lw,hlw⟩: ∃n,n=LW.length:=⟨_,rfl⟩
    rw[←hlw]at hWc hWl⊢;have HLW:=qh hlw;have RW:=qh hWr;have DW:Hid (D8 LW M):=hWd;have hlwb:lw≤100000:=by omega
    clear hlw hWr hWd hWl hWc;go_wp2_with fail
    go_loopg [14,15] lw (fun gh v14 v15 wr=>v15=.int .i64 ((gh:Int)-1)∧gh≤lw∧v14=.int .u64 (qab 256 (LW.drop gh):Nat)∧wr=WQ)
    case atStart=>exact⟨by go_num,Nat.le_refl _,by rw[List.drop_eq_nil_of_le (by have:=HLW.out;omega)];rfl,rfl⟩
    case round=>
     obtain⟨rfl,hgn,rfl,rfl⟩:=hrel;cases gk with
     |zero=>
      have hM:qab 256 (LW.drop 0)=M:=by rw[List.drop_zero];exact DW.out.val
      rw[hM];clear hM
      go_wp2_with (first
       |(go_at_call 125;(with_reducible refine(SHR.out _ (Below.refl _ _)).mono ?_);rintro e w7 ⟨v7,rfl,hv7,hk7⟩;have K7:=qh hk7;have V7:=qh hv7;clear hk7 hv7)
       |(go_at_call 126;(with_reducible refine(CMP.out _ v7 K7.out V7.out).mono ?_);rintro e w8 ⟨rfl,hk8⟩;have K8:=qh (K7.out.trans' hk8);clear hk8)
       |(go_at_call 163;(with_reducible refine(PK1.out _).mono ?_);rintro e w4 ⟨rfl,hw⟩;replace hw:=hw.symm;subst hw)
       |(go_at_call 163;(with_reducible refine(PK2.out _).mono ?_);rintro e w4 ⟨rfl,hw⟩;replace hw:=hw.symm;subst hw))
      exact bodyPost_ret (v:=.tuple #[.float .f64 (qaJ M Q),.float .f64 (qaJ (M+1) Q),.int .i64 (2+cc),.bool (decide (M % 2=0))]) (by simp[results,results129,go_sem];rw[Bool.eq_iff_iff];simp;omega) rfl ⟨M,2+cc,decide (M % 2=0),rfl,qoF (n:=N) (e:=xe) (q:=Q) (by have:=KEEP.out.1;omega) _ KEEP.out.2.1 _ KEEP.out.2.2,HKK.out.trans' K8.out⟩
     |succ gh=>
      obtain⟨x,hx⟩: ∃x,LW[gh]? =some x:=⟨_,List.getElem?_eq_getElem (by have:=HLW.out;omega)⟩
      obtain⟨bx,ox,hA,cx⟩:=qb8 RW.out hx;first|subst hA|cases hA
      have hxb:=DW.out.ok x (List.mem_of_getElem? hx);have hst:=drop_step hx;have hle:=qiC (l:=LW) (i:=gh);rw[DW.out.val]at hle;obtain⟨z,hz⟩: ∃z,z=qab 256 (LW.drop (gh+1)):=⟨_,rfl⟩
      obtain⟨y,hy⟩: ∃y,y=qab 256 (LW.drop gh):=⟨_,rfl⟩
      rw[←hz,←hy]at hst;rw[←hy]at hle;rw[←hz];have HY:=qh (And.intro hy hst);have hzb:256*z+x<9007199254740992:=by omega
      have hg1:((gh:Int)+1-1)=gh:=by omega
      have hg2:(0:Int)≤gh:=by omega
      have hg3:(gh:Int)<lw:=by omega
      have hw5:IntKind.u64.wrap (x:Int)=(x:Int):=by rw[IntKind.wrap_u64];omega
      clear hst hle hz hy hx;go_wp2_with fail
      go_roundg gh
      case measure=>omega
      case rel=>exact⟨by go_num,by omega,by rw[←HY.out.1,HY.out.2];first|rfl|(congr 1;omega),rfl⟩
end
theorem qfb {d:DyD} {p:Nat} (h0:d.num≠0) (hp:qbt d.num.natAbs p):qaU d=Ieee.double.word d.neg (qaJ (qa8 d.num.natAbs d.e (qam p d.e)) (qam p d.e)):=qg4 h0 hp
theorem qg8 (m:Nat) (q:Int):qaJ m q≤qaS:=Nat.min_le_right _ _
theorem qgK :qaS<9223372036854775808:=by decide
set_option maxRecDepth 100000 in
set_option maxHeartbeats 3200000 in
theorem qf7 (d:DyD) (w:World) (hd:qae d=true):
  Calls prog 85 #[.agg #[.bool d.neg,.string d.n,.int .i64 d.e]] w fun en w'=>en=.returned (.float .f64 (qaU d))∧Kept w w':=by
 by_cases h0:d.num=0
 ·obtain rfl:=(qaj hd).2.1 h0
  have HZ:=qh (show qaU zD=0 by decide);rw[HZ.out];show Calls prog 85 #[.agg #[.bool false,.string ⟨#[]⟩,.int .i64 0]] w _;clear h0 hd;go_enter func85,ntmps85
  go_wp2_with fail
  go_ret
  exact⟨rfl,Kept.new (Below.refl _ _) _⟩
 ·obtain⟨p,hp⟩:=qdg d.num.natAbs
  have hne:=qfm (qcA hd h0);have TX:=qh (fun W=>qeD d p W hd h0 hp);obtain⟨T,hT⟩: ∃T,T=(p:Int)-1+d.e:=⟨_,rfl⟩
  rw[←hT]at TX;by_cases ht:1024≤T
  ·have AR:=qh (fun W=>qlc d p W hd h0 hp (by omega))
   have SG:=qh (fun W=>qhA d.neg qaS W qgK);rw[qh6 h0 hp (by omega)];generalize Ieee.double.word d.neg qaS=V at *;obtain⟨xn,s,xe⟩:=d;simp only at hne TX AR SG⊢;obtain⟨hz,hz1⟩:=hne;clear hd h0 hp hT;go_enter func85,ntmps85
   go_upto_region 1 with fail
   obtain⟨b,w1,hw,hb,B0,K1,HB⟩:=qa4 w (LC0 xn s xe) 24;rw[←hw,←hb];clear hw hb;obtain⟨c0,c1,c2⟩:=B0.out.c3
   go_wp2_with (first
    |(go_at_call 129;(with_reducible refine(AR.out _).mono ?_);rintro e w3 ⟨⟨a,rfl⟩,hk3⟩;have K3:=qh (K1.out.trans' hk3);obtain⟨c0,c1,c2⟩:=(B0.out.kept hk3).c3;have B3:=qh (B0.out.kept hk3);clear hk3)
    |(go_at_call 123;(with_reducible refine(TX.out _).mono ?_);rintro e w4 ⟨rfl,hk4⟩;have K4:=qh (K3.out.trans' hk4);obtain⟨c0,c1,c2⟩:=(B3.out.kept hk4).c3;clear hk4)
    |(go_at_call 130;(with_reducible refine(SG.out _).mono ?_);rintro e w5 ⟨rfl,hw⟩;replace hw:=hw.symm;subst hw))
   go_ret
   exact⟨rfl,K4.out⟩
  ·have AR:=qh (fun W=>qlx d p W hd h0 hp (by omega))
   have SG:=qh (fun(m:Nat) W=>qhA d.neg (qaJ m (qam p d.e)) W (Nat.lt_of_le_of_lt (qg8 _ _) qgK));rw[qfb h0 hp];generalize qa8 d.num.natAbs d.e (qam p d.e)=K at *;generalize qam p d.e=Q at *;obtain⟨xn,s,xe⟩:=d;simp only at hne TX AR SG⊢;obtain⟨hz,hz1⟩:=hne;clear hd h0 hp hT;go_enter func85,ntmps85
   go_upto_region 1 with fail
   obtain⟨b,w1,hw,hb,B0,K1,HB⟩:=qa4 w (LC0 xn s xe) 24;rw[←hw,←hb];clear hw hb;obtain⟨c0,c1,c2⟩:=B0.out.c3
   go_upto_region 7 with (first
    |(go_at_call 129;(with_reducible refine(AR.out _).mono ?_);rintro e w3 ⟨m,wh,ev,rfl,hM,hk3⟩;have K3:=qh (K1.out.trans' hk3);obtain⟨c0,c1,c2⟩:=(B0.out.kept hk3).c3;have B3:=qh (B0.out.kept hk3);have HM:=qh hM;clear hk3 hM)
    |(go_at_call 123;(with_reducible refine(TX.out _).mono ?_);rintro e w4 ⟨rfl,hk4⟩;have K4:=qh (K3.out.trans' hk4);obtain⟨c0,c1,c2⟩:=(B3.out.kept hk4).c3;clear hk4))
   have S1:=qh (SG.out m);have S2:=qh (SG.out (m+1));clear AR TX SG;by_cases h2:wh<2
   ·have hM:=HM.out
    rw[if_pos (.inl h2)]at hM;subst hM;go_wp2_with (go_at_call 130;(with_reducible refine(S1.out _).mono ?_);rintro e w5 ⟨rfl,hw⟩;replace hw:=hw.symm;subst hw)
    go_ret
    exact⟨rfl,K4.out⟩
   ·by_cases h3:wh=2
    ·subst h3
     cases ev with
     |true=>
      have hM:=HM.out;rw[if_pos (.inr ⟨rfl,rfl⟩)]at hM;subst hM;go_wp2_with (go_at_call 130;(with_reducible refine(S1.out _).mono ?_);rintro e w5 ⟨rfl,hw⟩;replace hw:=hw.symm;subst hw)
      go_ret
      exact⟨rfl,K4.out⟩
     |false=>
      have hM:=HM.out;rw[if_neg (by simp)]at hM;subst hM;go_wp2_with (go_at_call 130;(with_reducible refine(S2.out _).mono ?_);rintro e w5 ⟨rfl,hw⟩;replace hw:=hw.symm;subst hw)
      go_ret
      exact⟨rfl,K4.out⟩
    ·have hM:=HM.out
     rw[if_neg (by omega)]at hM;subst hM;go_wp2_with (go_at_call 130;(with_reducible refine(S2.out _).mono ?_);rintro e w5 ⟨rfl,hw⟩;replace hw:=hw.symm;subst hw)
     go_ret
     exact⟨rfl,K4.out⟩
section
set_option maxHeartbeats 1600000
set_option maxRecDepth 100000
abbrev qaF (x:GsD×Int):Value:=.tuple #[.agg #[.bool x.1.re.neg,.string x.1.re.n,.int .i64 x.1.re.e,.bool x.1.im.neg,.string x.1.im.n,.int .i64 x.1.im.e],.int .i64 x.2]
abbrev fnV (f:Nat):Value:=.func (.func f) #[] #[]
abbrev qp0 (b:Nat):Value:=.func (.func 146) #[] #[.pointer (some ⟨b,0,none⟩),.pointer (some ⟨b+1,0,none⟩)]
theorem qmF (f:Nat) (x y:Value) (w:World):(Instr.makeFunc (.func f) #[] #[x,y]).run prog w=.ok (.func (.func f) #[] #[x,y]) w:=rfl
theorem qcg {w W:World} {κ b:Nat} (h:w.grownBy W (some κ)) (hb:w.heap.size≤b) (i:Nat) (v:Value):w.grownBy (W.setCell ⟨b,i,none⟩ v) (some κ):=
 ⟨h.os,h.tape,h.output,by simpa [World.setCell] using h.size,fun k hk hne=>by
  rw[←h.block k hk hne];simp only[World.setCell];rw[Array.getElem?_modify,if_neg (by omega)]⟩
theorem qg0 (κ f:Nat) (w:World):Calls prog 102 #[.pointer (some ⟨κ,0,none⟩),fnV f] w fun e w'=> ∃b,e=.returned (qp0 b)∧w.heap.size≤b∧Bx w' b [.pointer (some ⟨κ,0,none⟩)]∧Bx w' (b+1) [fnV f]∧Kept w w':=by
 have hmf:=qmF;go_enter func102,ntmps102
 go_upto_region 1 with fail
 obtain⟨b,w1,hw,hb,B0,B1,K1,HB⟩:=qa6 w [.pointer (some ⟨κ,0,none⟩)] 183 [fnV f] 169;rw[←hw,←hb];clear hw hb;go_wp2_with fail
 go_ret
 exact⟨b,rfl,HB.out,B0.out,B1.out,K1.out⟩
theorem qmT (κ b:Nat) (x y:DyD) (R:DyD×Int) (w:World) (hκ:Bx w κ [.int .i64 0]) (h0:Bx w b [.pointer (some ⟨κ,0,none⟩)]) (h1:Bx w (b+1) [fnV 103])
  (hf: ∀W,Kept w W→Calls prog 103 #[.agg #[.bool x.neg,.string x.n,.int .i64 x.e],.agg #[.bool y.neg,.string y.n,.int .i64 y.e]] W fun en w'=>en=.returned (qai R)∧Kept W w'):
  Calls prog 146 #[.agg #[.bool x.neg,.string x.n,.int .i64 x.e],.agg #[.bool y.neg,.string y.n,.int .i64 y.e],.pointer (some ⟨b,0,none⟩),.pointer (some ⟨b+1,0,none⟩)] w
   fun en w'=>en=.returned (dyV R.1)∧Bx w' κ [.int .i64 R.2]∧w.grownBy w' (some κ):=by
 obtain⟨xn,xs,xe⟩:=x;obtain⟨yn,ys,ye⟩:=y;have OP:=qh hf;have HK:=qh (And.intro hκ (And.intro h0 h1));simp only at OP⊢;clear hf hκ h0 h1;go_enter func146,ntmps146
 go_upto_region 1 with fail
 obtain⟨c,w1,hw,hb,B0,B1,B2,K1,HB⟩:=qcj w (LC0 xn xs xe) 24 (LC0 yn ys ye) 24 (LC0 false ⟨#[]⟩ 0) 24;rw[←hw,←hb];clear hw hb;have k0:=(HK.out.1.kept K1.out).c 0 rfl;have b0:=(HK.out.2.1.kept K1.out).c 0 rfl;have g0:=(HK.out.2.2.kept K1.out).c 0 rfl;obtain⟨c0,c1,c2⟩:=B0.out.c3;obtain⟨d0,d1,d2⟩:=B1.out.c3;go_upto_region 3 with fail
 go_upto_region 4 with (go_at_call 103;(with_reducible refine(OP.out _ K1.out).mono ?_);rintro e w2 ⟨rfl,hk2⟩)
 have K3:=qh (Kept.new hk2 (.cells (LC0 R.1.neg R.1.n R.1.e).toArray 24));have B7:=qh (Bx.new w2 (LC0 R.1.neg R.1.n R.1.e) 24 w2.heap.size rfl);obtain⟨g,hg⟩: ∃g,g=w2.heap.size:=⟨_,rfl⟩
 rw[←hg]at B7⊢;have HG:=qh (show w1.heap.size≤g by have:=hk2.size;omega);clear hg hk2 k0 b0 g0 c0 c1 c2 d0 d1 d2;generalize(w2.alloc (.cells (LC0 R.1.neg R.1.n R.1.e).toArray 24))=w3 at *;have KW:=qh (K1.out.trans' K3.out);have k0:=(HK.out.1.kept KW.out).c 0 rfl;have kf:=(HK.out.1.kept KW.out).f 0;have b0:=(HK.out.2.1.kept KW.out).c 0 rfl;obtain⟨c0,c1,c2⟩:=B7.out.c3;obtain⟨d0,d1,d2⟩:=(B2.out.kept K3.out).c3;obtain⟨f0,f1,f2⟩:=(B2.out.kept K3.out).f3;have n1:κ<g:=by have:=HK.out.1.lt;have:=HG.out;have:=K1.out.size;omega
 have n2:κ<c:=by have:=HK.out.1.lt;have:=HB.out;omega
 have n3:c+2<g:=by have:=B2.out.lt;have:=HG.out;omega
 have n4:κ<w3.heap.size:=(HK.out.1.kept KW.out).lt;go_wp2_with fail
 have HG9:=qh (show w.grownBy (w3.setCell ⟨κ,0,none⟩ (.int .i64 R.2)) (some κ)from qba KW.out (qeZ w3 κ (.int .i64 R.2)));have HB9:=qh ((HK.out.1.kept KW.out).set 0 (.int .i64 R.2) (by simp));exact bodyPost_ret (v:=dyV R.1) (by simp[results,results146,go_sem,d0,d1,d2,dyV]) rfl ⟨rfl,((HB9.out.far _ (show κ≠c+2 by omega) _).far _ (show κ≠c+2 by omega) _).far _ (show κ≠c+2 by omega) _,qcg (qcg (qcg HG9.out (by have:=HB.out;omega) _ _) (by have:=HB.out;omega) _ _) (by have:=HB.out;omega) _ _⟩
theorem ql5 (κ b:Nat) (x y:DyD) (R:DyD×Int) (w:World) (hκ:Bx w κ [.int .i64 0]) (h0:Bx w b [.pointer (some ⟨κ,0,none⟩)]) (h1:Bx w (b+1) [fnV 97])
  (hf: ∀W,Kept w W→Calls prog 97 #[.agg #[.bool x.neg,.string x.n,.int .i64 x.e],.agg #[.bool y.neg,.string y.n,.int .i64 y.e]] W fun en w'=>en=.returned (qai R)∧Kept W w'):
  Calls prog 146 #[.agg #[.bool x.neg,.string x.n,.int .i64 x.e],.agg #[.bool y.neg,.string y.n,.int .i64 y.e],.pointer (some ⟨b,0,none⟩),.pointer (some ⟨b+1,0,none⟩)] w
   fun en w'=>en=.returned (dyV R.1)∧Bx w' κ [.int .i64 R.2]∧w.grownBy w' (some κ):=by
 obtain⟨xn,xs,xe⟩:=x;obtain⟨yn,ys,ye⟩:=y;have OP:=qh hf;have HK:=qh (And.intro hκ (And.intro h0 h1));simp only at OP⊢;clear hf hκ h0 h1;go_enter func146,ntmps146
 go_upto_region 1 with fail
 obtain⟨c,w1,hw,hb,B0,B1,B2,K1,HB⟩:=qcj w (LC0 xn xs xe) 24 (LC0 yn ys ye) 24 (LC0 false ⟨#[]⟩ 0) 24;rw[←hw,←hb];clear hw hb;have k0:=(HK.out.1.kept K1.out).c 0 rfl;have b0:=(HK.out.2.1.kept K1.out).c 0 rfl;have g0:=(HK.out.2.2.kept K1.out).c 0 rfl;obtain⟨c0,c1,c2⟩:=B0.out.c3;obtain⟨d0,d1,d2⟩:=B1.out.c3;go_upto_region 3 with fail
 go_upto_region 4 with (go_at_call 97;(with_reducible refine(OP.out _ K1.out).mono ?_);rintro e w2 ⟨rfl,hk2⟩)
 have K3:=qh (Kept.new hk2 (.cells (LC0 R.1.neg R.1.n R.1.e).toArray 24));have B7:=qh (Bx.new w2 (LC0 R.1.neg R.1.n R.1.e) 24 w2.heap.size rfl);obtain⟨g,hg⟩: ∃g,g=w2.heap.size:=⟨_,rfl⟩
 rw[←hg]at B7⊢;have HG:=qh (show w1.heap.size≤g by have:=hk2.size;omega);clear hg hk2 k0 b0 g0 c0 c1 c2 d0 d1 d2;generalize(w2.alloc (.cells (LC0 R.1.neg R.1.n R.1.e).toArray 24))=w3 at *;have KW:=qh (K1.out.trans' K3.out);have k0:=(HK.out.1.kept KW.out).c 0 rfl;have kf:=(HK.out.1.kept KW.out).f 0;have b0:=(HK.out.2.1.kept KW.out).c 0 rfl;obtain⟨c0,c1,c2⟩:=B7.out.c3;obtain⟨d0,d1,d2⟩:=(B2.out.kept K3.out).c3;obtain⟨f0,f1,f2⟩:=(B2.out.kept K3.out).f3;have n1:κ<g:=by have:=HK.out.1.lt;have:=HG.out;have:=K1.out.size;omega
 have n2:κ<c:=by have:=HK.out.1.lt;have:=HB.out;omega
 have n3:c+2<g:=by have:=B2.out.lt;have:=HG.out;omega
 have n4:κ<w3.heap.size:=(HK.out.1.kept KW.out).lt;go_wp2_with fail
 have HG9:=qh (show w.grownBy (w3.setCell ⟨κ,0,none⟩ (.int .i64 R.2)) (some κ)from qba KW.out (qeZ w3 κ (.int .i64 R.2)));have HB9:=qh ((HK.out.1.kept KW.out).set 0 (.int .i64 R.2) (by simp));exact bodyPost_ret (v:=dyV R.1) (by simp[results,results146,go_sem,d0,d1,d2,dyV]) rfl ⟨rfl,((HB9.out.far _ (show κ≠c+2 by omega) _).far _ (show κ≠c+2 by omega) _).far _ (show κ≠c+2 by omega) _,qcg (qcg (qcg HG9.out (by have:=HB.out;omega) _ _) (by have:=HB.out;omega) _ _) (by have:=HB.out;omega) _ _⟩
theorem qmI (κ b:Nat) (x y:DyD) (R:DyD×Int) (w:World) (hκ:Bx w κ [.int .i64 0]) (h0:Bx w b [.pointer (some ⟨κ,0,none⟩)]) (h1:Bx w (b+1) [fnV 90])
  (hf: ∀W,Kept w W→Calls prog 90 #[.agg #[.bool x.neg,.string x.n,.int .i64 x.e],.agg #[.bool y.neg,.string y.n,.int .i64 y.e]] W fun en w'=>en=.returned (qai R)∧Kept W w'):
  Calls prog 146 #[.agg #[.bool x.neg,.string x.n,.int .i64 x.e],.agg #[.bool y.neg,.string y.n,.int .i64 y.e],.pointer (some ⟨b,0,none⟩),.pointer (some ⟨b+1,0,none⟩)] w
   fun en w'=>en=.returned (dyV R.1)∧Bx w' κ [.int .i64 R.2]∧w.grownBy w' (some κ):=by
 obtain⟨xn,xs,xe⟩:=x;obtain⟨yn,ys,ye⟩:=y;have OP:=qh hf;have HK:=qh (And.intro hκ (And.intro h0 h1));simp only at OP⊢;clear hf hκ h0 h1;go_enter func146,ntmps146
 go_upto_region 1 with fail
 obtain⟨c,w1,hw,hb,B0,B1,B2,K1,HB⟩:=qcj w (LC0 xn xs xe) 24 (LC0 yn ys ye) 24 (LC0 false ⟨#[]⟩ 0) 24;rw[←hw,←hb];clear hw hb;have k0:=(HK.out.1.kept K1.out).c 0 rfl;have b0:=(HK.out.2.1.kept K1.out).c 0 rfl;have g0:=(HK.out.2.2.kept K1.out).c 0 rfl;obtain⟨c0,c1,c2⟩:=B0.out.c3;obtain⟨d0,d1,d2⟩:=B1.out.c3;go_upto_region 3 with fail
 go_upto_region 4 with (go_at_call 90;(with_reducible refine(OP.out _ K1.out).mono ?_);rintro e w2 ⟨rfl,hk2⟩)
 have K3:=qh (Kept.new hk2 (.cells (LC0 R.1.neg R.1.n R.1.e).toArray 24));have B7:=qh (Bx.new w2 (LC0 R.1.neg R.1.n R.1.e) 24 w2.heap.size rfl);obtain⟨g,hg⟩: ∃g,g=w2.heap.size:=⟨_,rfl⟩
 rw[←hg]at B7⊢;have HG:=qh (show w1.heap.size≤g by have:=hk2.size;omega);clear hg hk2 k0 b0 g0 c0 c1 c2 d0 d1 d2;generalize(w2.alloc (.cells (LC0 R.1.neg R.1.n R.1.e).toArray 24))=w3 at *;have KW:=qh (K1.out.trans' K3.out);have k0:=(HK.out.1.kept KW.out).c 0 rfl;have kf:=(HK.out.1.kept KW.out).f 0;have b0:=(HK.out.2.1.kept KW.out).c 0 rfl;obtain⟨c0,c1,c2⟩:=B7.out.c3;obtain⟨d0,d1,d2⟩:=(B2.out.kept K3.out).c3;obtain⟨f0,f1,f2⟩:=(B2.out.kept K3.out).f3;have n1:κ<g:=by have:=HK.out.1.lt;have:=HG.out;have:=K1.out.size;omega
 have n2:κ<c:=by have:=HK.out.1.lt;have:=HB.out;omega
 have n3:c+2<g:=by have:=B2.out.lt;have:=HG.out;omega
 have n4:κ<w3.heap.size:=(HK.out.1.kept KW.out).lt;go_wp2_with fail
 have HG9:=qh (show w.grownBy (w3.setCell ⟨κ,0,none⟩ (.int .i64 R.2)) (some κ)from qba KW.out (qeZ w3 κ (.int .i64 R.2)));have HB9:=qh ((HK.out.1.kept KW.out).set 0 (.int .i64 R.2) (by simp));exact bodyPost_ret (v:=dyV R.1) (by simp[results,results146,go_sem,d0,d1,d2,dyV]) rfl ⟨rfl,((HB9.out.far _ (show κ≠c+2 by omega) _).far _ (show κ≠c+2 by omega) _).far _ (show κ≠c+2 by omega) _,qcg (qcg (qcg HG9.out (by have:=HB.out;omega) _ _) (by have:=HB.out;omega) _ _) (by have:=HB.out;omega) _ _⟩
theorem qgd (κ b:Nat) (x y:DyD) (e:Int) (he:e≠0) (w:World) (hκ:Bx w κ [.int .i64 e]) (h0:Bx w b [.pointer (some ⟨κ,0,none⟩)]):
  Calls prog 146 #[.agg #[.bool x.neg,.string x.n,.int .i64 x.e],.agg #[.bool y.neg,.string y.n,.int .i64 y.e],.pointer (some ⟨b,0,none⟩),.pointer (some ⟨b+1,0,none⟩)] w
   fun en w'=>en=.returned (dyV zD)∧Kept w w':=by
 obtain⟨xn,xs,xe⟩:=x;obtain⟨yn,ys,ye⟩:=y;have HK:=qh (And.intro hκ h0);simp only;clear hκ h0;go_enter func146,ntmps146
 go_upto_region 1 with fail
 obtain⟨c,w1,hw,hb,B0,B1,B2,K1,HB⟩:=qcj w (LC0 xn xs xe) 24 (LC0 yn ys ye) 24 (LC0 false ⟨#[]⟩ 0) 24;rw[←hw,←hb];clear hw hb;have k0:=(HK.out.1.kept K1.out).c 0 rfl;have b0:=(HK.out.2.kept K1.out).c 0 rfl;obtain⟨d0,d1,d2⟩:=B2.out.c3;obtain⟨f0,f1,f2⟩:=B2.out.f3;go_wp2_with fail
 exact bodyPost_ret (v:=dyV zD) (by simp[results,results146,go_sem,d0,d1,d2,dyV,zD]) rfl ⟨rfl,K1.out.qaO (by have:=HB.out;omega) _ _ _⟩
theorem qid (κ b:Nat) (x y:DyD) (R:DyD×Int) (e:Int) (w:World) (hκ:Bx w κ [.int .i64 e]) (h0:Bx w b [.pointer (some ⟨κ,0,none⟩)]) (h1:Bx w (b+1) [fnV 103])
  (hf: ∀W,Kept w W→Calls prog 103 #[.agg #[.bool x.neg,.string x.n,.int .i64 x.e],.agg #[.bool y.neg,.string y.n,.int .i64 y.e]] W fun en w'=>en=.returned (qai R)∧Kept W w'):
  Calls prog 146 #[.agg #[.bool x.neg,.string x.n,.int .i64 x.e],.agg #[.bool y.neg,.string y.n,.int .i64 y.e],.pointer (some ⟨b,0,none⟩),.pointer (some ⟨b+1,0,none⟩)] w
   fun en w'=>en=.returned (dyV (if e=0 then R.1 else zD))∧Bx w' κ [.int .i64 (if e=0 then R.2 else e)]∧w.grownBy w' (some κ):=by
 by_cases he:e=0
 ·subst he
  rw[if_pos rfl,if_pos rfl];exact qmT κ b x y R w hκ h0 h1 hf
 ·rw [if_neg he,if_neg he]
  exact(qgd κ b x y e he w hκ h0).mono fun en w' ⟨h2,h3⟩=>⟨h2,hκ.kept h3,h3.os,h3.tape,h3.output,h3.size,fun k hk _=>h3.block k hk⟩
theorem qiq (κ b:Nat) (x y:DyD) (R:DyD×Int) (e:Int) (w:World) (hκ:Bx w κ [.int .i64 e]) (h0:Bx w b [.pointer (some ⟨κ,0,none⟩)]) (h1:Bx w (b+1) [fnV 97])
  (hf: ∀W,Kept w W→Calls prog 97 #[.agg #[.bool x.neg,.string x.n,.int .i64 x.e],.agg #[.bool y.neg,.string y.n,.int .i64 y.e]] W fun en w'=>en=.returned (qai R)∧Kept W w'):
  Calls prog 146 #[.agg #[.bool x.neg,.string x.n,.int .i64 x.e],.agg #[.bool y.neg,.string y.n,.int .i64 y.e],.pointer (some ⟨b,0,none⟩),.pointer (some ⟨b+1,0,none⟩)] w
   fun en w'=>en=.returned (dyV (if e=0 then R.1 else zD))∧Bx w' κ [.int .i64 (if e=0 then R.2 else e)]∧w.grownBy w' (some κ):=by
 by_cases he:e=0
 ·subst he
  rw[if_pos rfl,if_pos rfl];exact ql5 κ b x y R w hκ h0 h1 hf
 ·rw [if_neg he,if_neg he]
  exact(qgd κ b x y e he w hκ h0).mono fun en w' ⟨h2,h3⟩=>⟨h2,hκ.kept h3,h3.os,h3.tape,h3.output,h3.size,fun k hk _=>h3.block k hk⟩
theorem qmp (κ b:Nat) (x y:DyD) (R:DyD×Int) (e:Int) (w:World) (hκ:Bx w κ [.int .i64 e]) (h0:Bx w b [.pointer (some ⟨κ,0,none⟩)]) (h1:Bx w (b+1) [fnV 90])
  (hf: ∀W,Kept w W→Calls prog 90 #[.agg #[.bool x.neg,.string x.n,.int .i64 x.e],.agg #[.bool y.neg,.string y.n,.int .i64 y.e]] W fun en w'=>en=.returned (qai R)∧Kept W w'):
  Calls prog 146 #[.agg #[.bool x.neg,.string x.n,.int .i64 x.e],.agg #[.bool y.neg,.string y.n,.int .i64 y.e],.pointer (some ⟨b,0,none⟩),.pointer (some ⟨b+1,0,none⟩)] w
   fun en w'=>en=.returned (dyV (if e=0 then R.1 else zD))∧Bx w' κ [.int .i64 (if e=0 then R.2 else e)]∧w.grownBy w' (some κ):=by
 by_cases he:e=0
 ·subst he
  rw[if_pos rfl,if_pos rfl];exact qmI κ b x y R w hκ h0 h1 hf
 ·rw [if_neg he,if_neg he]
  exact(qgd κ b x y e he w hκ h0).mono fun en w' ⟨h2,h3⟩=>⟨h2,hκ.kept h3,h3.os,h3.tape,h3.output,h3.size,fun k hk _=>h3.block k hk⟩
end
section
set_option maxHeartbeats 1600000
set_option maxRecDepth 100000
theorem Bx.drew {W:World} {b:Nat} {vs:List Value} (h:Bx W b vs):Bx W.drew b vs:=h
theorem Bx.qpX {W:World} {κ b:Nat} {vs:List Value} (h:Bx W κ vs) (hne:κ≠b) (v0 v1 v2:Value):Bx (((W.setCell ⟨b,0,none⟩ v0).setCell ⟨b,1,none⟩ v1).setCell ⟨b,2,none⟩ v2) κ vs:=
 ((h.far ⟨b,0,none⟩ hne v0).far ⟨b,1,none⟩ hne v1).far ⟨b,2,none⟩ hne v2
theorem Bx.qp9 {W:World} {κ b:Nat} {vs:List Value} (h:Bx W κ vs) (hne:κ≠b) (v0 v1 v2 v3 v4 v5:Value):Bx ((((((W.setCell ⟨b,0,none⟩ v0).setCell ⟨b,1,none⟩ v1).setCell ⟨b,2,none⟩ v2).setCell ⟨b,3,none⟩ v3).setCell ⟨b,4,none⟩ v4).setCell ⟨b,5,none⟩ v5) κ vs:=
 (((h.qpX hne v0 v1 v2).far ⟨b,3,none⟩ hne v3).far ⟨b,4,none⟩ hne v4).far ⟨b,5,none⟩ hne v5
theorem qle (κ:Nat) (x y:DyD) (e:Int) (w:World) (hκ:Bx w κ [.int .i64 e]):
  Calls prog 104 #[.pointer (some ⟨κ,0,none⟩),.agg #[.bool x.neg,.string x.n,.int .i64 x.e],.agg #[.bool y.neg,.string y.n,.int .i64 y.e]] w
   fun en w'=>en=.returned (qaF (if e=0 then(⟨x,y⟩,0)else(zG,e)))∧Kept w w':=by
 have HK:=qh hκ;clear hκ;by_cases he:e=0
 ·subst he
  rw[if_pos rfl];obtain⟨xn,xs,xe⟩:=x;obtain⟨yn,ys,ye⟩:=y;simp only;go_enter func104,ntmps104
  go_upto_region 1 with fail
  obtain⟨c,w1,hw,hb,B0,B1,B2,K1,HB⟩:=qcj w (LC0 xn xs xe) 24 (LC0 yn ys ye) 24 ZL0 28;rw[←hw,←hb];clear hw hb;have k0:=(HK.out.kept K1.out).c 0 rfl;obtain⟨a0,a1,a2⟩:=B0.out.c3;obtain⟨b0,b1,b2⟩:=B1.out.c3;obtain⟨d0,d1,d2,d3,d4,d5⟩:=B2.out.c6;obtain⟨f0,f1,f2,f3,f4,f5⟩:=B2.out.f6;go_wp2_with fail
  exact bodyPost_ret (v:=qaF (⟨⟨xn,xs,xe⟩,⟨yn,ys,ye⟩⟩,0)) (by simp[results,results104,go_sem,d0,d1,d2,d3,d4,d5,qaF]) rfl ⟨rfl,K1.out.qde (by have:=HB.out;omega) _ _ _ _ _ _⟩
 ·rw [if_neg he]
  obtain⟨xn,xs,xe⟩:=x;obtain⟨yn,ys,ye⟩:=y;simp only;go_enter func104,ntmps104
  go_upto_region 1 with fail
  obtain⟨c,w1,hw,hb,B0,B1,B2,K1,HB⟩:=qcj w (LC0 xn xs xe) 24 (LC0 yn ys ye) 24 ZL0 28;rw[←hw,←hb];clear hw hb;have k0:=(HK.out.kept K1.out).c 0 rfl;obtain⟨d0,d1,d2,d3,d4,d5⟩:=B2.out.c6;obtain⟨f0,f1,f2,f3,f4,f5⟩:=B2.out.f6;go_wp2_with fail
  have hS0:w1.drew.cell? ⟨κ,0,none⟩=some (.int .i64 e):=k0;have hne:κ≠c+2:=by have:=HK.out.lt;have:=HB.out;omega
  have KS:Hid (∀v0 v1 v2 v3 v4 v5:Value,((((((w1.setCell ⟨c+1+1,0,none⟩ v0).setCell ⟨c+1+1,1,none⟩ v1).setCell ⟨c+1+1,2,none⟩ v2).setCell ⟨c+1+1,3,none⟩ v3).setCell ⟨c+1+1,4,none⟩ v4).setCell ⟨c+1+1,5,none⟩ v5).drew.cell? ⟨κ,0,none⟩=some (.int .i64 e)):=fun v0 v1 v2 v3 v4 v5=>Bx.c (Bx.drew (Bx.qp9 (HK.out.kept K1.out) (show κ≠c+1+1 by omega) v0 v1 v2 v3 v4 v5)) 0 rfl;refine qac (fun W=>W.cell? ⟨κ,0,none⟩=some (.int .i64 e)) [6] (by kernel_rfl) ?_ (fun hHeld=>?_)
  ·first|with_reducible assumption|with_reducible exact KS.out _ _ _ _ _ _
  refine wS 0 13 ?_;refine wS 1 14 ?_;refine wS 2 15 ?_;refine wS 3 16 ?_;refine wS 4 17 ?_;refine oS 5 fun K hK=>?_;go_simp;refine hK.out _ _ ?_ (fun hHeld=>?_)
  ·first|with_reducible assumption|with_reducible exact KS.out _ _ _ _ _ _
  clear hK K;try simp only[Act.put,tdy]
  refine eS 6 fun K hK=>?_;go_simp;refine hK.out _ _ ?_;clear hK K;try simp only[Act.put,tdy]
  refine dS ?_ _;go_wp2_with fail
  exact bodyPost_ret (v:=qaF (zG,e)) (by simp[results,results104,go_sem,d0,d1,d2,d3,d4,d5,qaF,zG,zD]) rfl ⟨rfl,(K1.out.qde (b:=c+1+1) (by have:=HB.out;omega) _ _ _ _ _ _).drew⟩
theorem qoB (κ:Nat) (x:DyD) (e:Int) (w:World) (hκ:Bx w κ [.int .i64 e]):
  Calls prog 148 #[.pointer (some ⟨κ,0,none⟩),.agg #[.bool x.neg,.string x.n,.int .i64 x.e]] w
   fun en w'=>en=.returned (qai (if e=0 then(x,0)else(zD,e)))∧Kept w w':=by
 have HK:=qh hκ;clear hκ;by_cases he:e=0
 ·subst he
  rw[if_pos rfl];obtain⟨xn,xs,xe⟩:=x;simp only;go_enter func148,ntmps148
  go_upto_region 1 with fail
  obtain⟨c,w1,hw,hb,B0,B1,K1,HB⟩:=qa6 w (LC0 xn xs xe) 24 (LC0 false ⟨#[]⟩ 0) 24;rw[←hw,←hb];clear hw hb;have k0:=(HK.out.kept K1.out).c 0 rfl;obtain⟨a0,a1,a2⟩:=B0.out.c3;obtain⟨d0,d1,d2⟩:=B1.out.c3;obtain⟨f0,f1,f2⟩:=B1.out.f3;go_wp2_with fail
  exact bodyPost_ret (v:=qai (⟨xn,xs,xe⟩,0)) (by simp[results,results148,go_sem,d0,d1,d2,qai]) rfl ⟨rfl,K1.out.qaO (by have:=HB.out;omega) _ _ _⟩
 ·rw [if_neg he]
  obtain⟨xn,xs,xe⟩:=x;simp only;go_enter func148,ntmps148
  go_upto_region 1 with fail
  obtain⟨c,w1,hw,hb,B0,B1,K1,HB⟩:=qa6 w (LC0 xn xs xe) 24 (LC0 false ⟨#[]⟩ 0) 24;rw[←hw,←hb];clear hw hb;have k0:=(HK.out.kept K1.out).c 0 rfl;obtain⟨d0,d1,d2⟩:=B1.out.c3;obtain⟨f0,f1,f2⟩:=B1.out.f3;go_wp2_with fail
  have hS0:w1.drew.cell? ⟨κ,0,none⟩=some (.int .i64 e):=k0;have hne:κ≠c+1:=by have:=HK.out.lt;have:=HB.out;omega
  have KS:Hid (∀v0 v1 v2:Value,(((w1.setCell ⟨c+1,0,none⟩ v0).setCell ⟨c+1,1,none⟩ v1).setCell ⟨c+1,2,none⟩ v2).drew.cell? ⟨κ,0,none⟩=some (.int .i64 e)):=fun v0 v1 v2=>Bx.c (Bx.drew (Bx.qpX (HK.out.kept K1.out) hne v0 v1 v2)) 0 rfl;refine qac (fun W=>W.cell? ⟨κ,0,none⟩=some (.int .i64 e)) [6] (by kernel_rfl) ?_ (fun hHeld=>?_)
  ·first|with_reducible assumption|with_reducible exact KS.out _ _ _
  refine wS 0 11 ?_;refine wS 1 12 ?_;refine wS 2 13 ?_;refine wS 3 14 ?_;refine wS 4 15 ?_;refine oS 5 fun K hK=>?_;go_simp;refine hK.out _ _ ?_ (fun hHeld=>?_)
  ·first|with_reducible assumption|with_reducible exact KS.out _ _ _
  clear hK K;try simp only[Act.put,tdy]
  refine eS 6 fun K hK=>?_;go_simp;refine hK.out _ _ ?_;clear hK K;try simp only[Act.put,tdy]
  refine dS ?_ _;go_wp2_with fail
  exact bodyPost_ret (v:=qai (zD,e)) (by simp[results,results148,go_sem,d0,d1,d2,qai,zD]) rfl ⟨rfl,(K1.out.qaO (b:=c+1) (by have:=HB.out;omega) _ _ _).drew⟩
end
section
set_option maxHeartbeats 3200000
set_option maxRecDepth 100000
theorem Bx.c12 {W:World} {b:Nat} {x0 x1 x2 x3 x4 x5 x6 x7 x8 x9 x10 x11:Value} (h:Bx W b [x0,x1,x2,x3,x4,x5,x6,x7,x8,x9,x10,x11]):
  (W.cell? ⟨b,0,none⟩=some x0∧W.cell? ⟨b,1,none⟩=some x1∧W.cell? ⟨b,2,none⟩=some x2∧W.cell? ⟨b,3,none⟩=some x3∧W.cell? ⟨b,4,none⟩=some x4∧W.cell? ⟨b,5,none⟩=some x5)∧
  W.cell? ⟨b,6,none⟩=some x6∧W.cell? ⟨b,7,none⟩=some x7∧W.cell? ⟨b,8,none⟩=some x8∧W.cell? ⟨b,9,none⟩=some x9∧W.cell? ⟨b,10,none⟩=some x10∧W.cell? ⟨b,11,none⟩=some x11:=
 ⟨⟨h.c 0 rfl,h.c 1 rfl,h.c 2 rfl,h.c 3 rfl,h.c 4 rfl,h.c 5 rfl⟩,h.c 6 rfl,h.c 7 rfl,h.c 8 rfl,h.c 9 rfl,h.c 10 rfl,h.c 11 rfl⟩
theorem qeN (g:GsD) (hg:gsB g=true) (W:World):Calls prog 18 #[.agg #[.bool g.re.neg,.string g.re.n,.int .i64 g.re.e,.bool g.im.neg,.string g.im.n,.int .i64 g.im.e]] W fun e w'=>e=.returned (.int .i64 0)∧Kept W w':=by
 obtain⟨h1,h2⟩:=qan.1 hg;have:=qg3 g.re g.im W (qcZ h1) (qcZ h2);unfold qhu at this;rw[h1,h2]at this;exact this
theorem qia (x y:GsD) (hx:gsB x=true) (hy:gsB y=true) (w:World) (g:Nat) (hb:Bx w g (LC2 x.re.neg x.re.n x.re.e x.im.neg x.im.n x.im.e y.re.neg y.re.n y.re.e y.im.neg y.im.n y.im.e)):
  Calls prog 56 #[.slice (some ⟨g,0,none⟩) 2 2] w fun en w'=>en=.returned (.bool true)∧Kept w w':=by
 have CX:=qh (qeN x hx);have CY:=qh (qeN y hy);obtain⟨⟨a0,a1,a2⟩,⟨a3,a4,a5⟩⟩:=x;obtain⟨⟨b0,b1,b2⟩,⟨b3,b4,b5⟩⟩:=y;simp only at CX CY hb;have HB:=qh hb;clear hb hx hy;go_enter func56,ntmps56
 go_wp2_with fail
 go_loopg [4,7] 2 (fun gh v4 v7 wr=> ∃i:Nat,i+gh=2∧v7=.int .i64 i∧Kept w wr)
 case atStart=>exact⟨0,by omega,rfl,Below.refl _ _⟩
 case round=>
  obtain⟨i,hig,rfl,hk⟩:=hrel;have HK:=qh hk;have B:=HB.out.kept hk;obtain⟨⟨c0,c1,c2,c3,c4,c5⟩,c6,c7,c8,c9,c10,c11⟩:=B.c12;have hlt:=B.lt;have hwl:=hk.size;clear hk B;rcases(show i=0∨i=1∨i=2 by omega)with rfl|rfl|rfl
  ·obtain rfl:gk=2:=by omega
   go_wp2_with (go_at_call 18;(with_reducible refine(CX.out _).mono ?_);rintro e w3 ⟨rfl,hk3⟩)
   go_roundg 1
   case measure=>omega
   case rel=>exact⟨1,by omega,by go_num,(((HK.out.new _)).trans' hk3)⟩
  ·obtain rfl:gk=1:=by omega
   go_wp2_with (go_at_call 18;(with_reducible refine(CY.out _).mono ?_);rintro e w3 ⟨rfl,hk3⟩)
   go_roundg 0
   case measure=>omega
   case rel=>exact⟨2,by omega,by go_num,(((HK.out.new _)).trans' hk3)⟩
  ·obtain rfl:gk=0:=by omega
   go_wp2_with fail
   go_ret
   exact⟨rfl,HK.out⟩
theorem qlw {R Q:DyD×Int} (hR:R.2=0∨R=(zD,4)) (hQ:Q.2=0∨Q=(zD,4)):
  (if (if R.2=0 then Q.2 else R.2)=0 then(⟨R.1,if R.2=0 then Q.1 else zD⟩,0)else(zG,if R.2=0 then Q.2 else R.2))=qaG R Q:=by
 unfold qaG;by_cases h1:R.2=0
 ·by_cases h2:Q.2=0
  ·rw [if_pos h1,if_pos h1,if_pos h2,if_pos ⟨h1,h2⟩]
  ·rw [if_pos h1,if_pos h1,if_neg h2,if_neg (fun h=>h2 h.2)]
   rcases hQ with h|h
   ·exact absurd h h2
   ·rw [h]
 ·rw [if_neg h1,if_neg h1,if_neg (fun h=>h1 h.1)]
  rcases hR with h|h
  ·exact absurd h h1
  ·rw [h]
theorem qoe (x y:GsD) (w:World) (hx:gsB x=true) (hy:gsB y=true) (hT:T32 w):
  Calls prog 67 #[.agg #[.bool x.re.neg,.string x.re.n,.int .i64 x.re.e,.bool x.im.neg,.string x.im.n,.int .i64 x.im.e],.agg #[.bool y.re.neg,.string y.re.n,.int .i64 y.re.e,.bool y.im.neg,.string y.im.n,.int .i64 y.im.e]] w fun en w'=>en=.returned (qaF (qeB x y))∧Kept w w':=by
 have ALL:=qh (qia x y hx hy);obtain⟨hx1,hx2⟩:=qan.1 hx;obtain⟨hy1,hy2⟩:=qan.1 hy;have S1:Hid (∀W,Kept w W→Calls prog 103 #[.agg #[.bool x.re.neg,.string x.re.n,.int .i64 x.re.e],.agg #[.bool y.re.neg,.string y.re.n,.int .i64 y.re.e]] W fun en w'=>en=.returned (qai (qdI x.re y.re))∧Kept W w'):=fun W h=>qjd x.re y.re W hx1 hy1 (hT.kept h);have S2:Hid (∀W,Kept w W→Calls prog 103 #[.agg #[.bool x.im.neg,.string x.im.n,.int .i64 x.im.e],.agg #[.bool y.im.neg,.string y.im.n,.int .i64 y.im.e]] W fun en w'=>en=.returned (qai (qdI x.im y.im))∧Kept W w'):=fun W h=>qjd x.im y.im W hx2 hy2 (hT.kept h);have HR:=qh (qlw (qhh x.re y.re) (qhh x.im y.im));unfold qeB;generalize qdI x.re y.re=R at *;generalize qdI x.im y.im=Q at *;generalize qaG R Q=RQ at *;obtain⟨Y,hY⟩: ∃Y,Y=if R.2=0 then Q.1 else zD:=⟨_,rfl⟩
 obtain⟨E,hE⟩: ∃E,E=if R.2=0 then Q.2 else R.2:=⟨_,rfl⟩
 rw[←hY,←hE]at HR;have HY:=qh (And.intro hY hE);clear hY hE;obtain⟨⟨a0,a1,a2⟩,⟨a3,a4,a5⟩⟩:=x;obtain⟨⟨b0,b1,b2⟩,⟨b3,b4,b5⟩⟩:=y;simp only at ALL S1 S2⊢;clear hx hy hx1 hx2 hy1 hy2 hT;go_enter func67,ntmps67
 go_upto_region 1 with fail
 obtain⟨b,w1,hw,hb,B0,B1,B2,K1,HB⟩:=qcj w (LC1 a0 a1 a2 a3 a4 a5) 28 (LC1 b0 b1 b2 b3 b4 b5) 28 ZL0 28;rw[←hw,←hb];clear hw hb;obtain⟨c0,c1,c2,c3,c4,c5⟩:=B0.out.c6;obtain⟨d0,d1,d2,d3,d4,d5⟩:=B1.out.c6;go_upto_region 4 with (go_at_call 56;(with_reducible refine(ALL.out _ _ ?_).mono ?_);(exact Bx.new _ _ _ _ rfl);rintro e w3 ⟨rfl,hk3⟩;have K3:=qh ((Kept.new (Below.refl _ _) _).trans' hk3))
 clear c0 c1 c2 c3 c4 c5 d0 d1 d2 d3 d4 d5 ALL hk3;have K4:=qh (Kept.new K3.out (.cells #[.int .i64 0] 185));have BK:=qh (Bx.new w3 [.int .i64 0] 185 w3.heap.size rfl);obtain⟨κ,hκ⟩: ∃g,g=w3.heap.size:=⟨_,rfl⟩
 rw[←hκ]at BK⊢;have Hκ:=qh (show w1.heap.size≤κ by have:=K3.out.size;omega);clear hκ K3;generalize(w3.alloc (.cells #[.int .i64 0] 185))=w4 at *;have KE:=qh (qg0 κ 103);go_upto_region 5 with (go_at_call 102;(with_reducible refine(KE.out _).mono ?_);rintro e w5 ⟨c,rfl,hc,hb0,hb1,hk5⟩)
 have K5:=qh (K4.out.trans' hk5);have BK5:=qh (BK.out.kept hk5);have C0:=qh hb0;have C1:=qh hb1;have hκc:κ<c:=Nat.lt_of_lt_of_le BK.out.lt hc;clear hc hb0 hb1 hk5 K4 BK KE;have SK:Hid (∀W,Kept w1 W→(W.cell? ⟨b,0,none⟩=some (.bool a0)∧W.cell? ⟨b,1,none⟩=some (.string a1)∧W.cell? ⟨b,2,none⟩=some (.int .i64 a2)∧W.cell? ⟨b,3,none⟩=some (.bool a3)∧W.cell? ⟨b,4,none⟩=some (.string a4)∧W.cell? ⟨b,5,none⟩=some (.int .i64 a5))∧W.cell? ⟨b+1,0,none⟩=some (.bool b0)∧W.cell? ⟨b+1,1,none⟩=some (.string b1)∧W.cell? ⟨b+1,2,none⟩=some (.int .i64 b2)∧W.cell? ⟨b+1,3,none⟩=some (.bool b3)∧W.cell? ⟨b+1,4,none⟩=some (.string b4)∧W.cell? ⟨b+1,5,none⟩=some (.int .i64 b5)):=fun W h=>⟨(B0.out.kept h).c6,(B1.out.kept h).c6⟩
 have D5:Kept w5 w5.drew:=(Below.refl _ w5).drew;have K5d:=qh (K5.out.trans' D5);have F1:=qh (qid κ c ⟨a0,a1,a2⟩ ⟨b0,b1,b2⟩ R 0 w5.drew (BK5.out.kept D5) (C0.out.kept D5) (C1.out.kept D5) (fun W h=>S1.out W (K1.out.trans' (K5d.out.trans' h))));have hS0:=SK.out _ K5d.out;clear D5;refine qac (fun W=>(W.cell? ⟨b,0,none⟩=some (.bool a0)∧W.cell? ⟨b,1,none⟩=some (.string a1)∧W.cell? ⟨b,2,none⟩=some (.int .i64 a2)∧W.cell? ⟨b,3,none⟩=some (.bool a3)∧W.cell? ⟨b,4,none⟩=some (.string a4)∧W.cell? ⟨b,5,none⟩=some (.int .i64 a5))∧W.cell? ⟨b+1,0,none⟩=some (.bool b0)∧W.cell? ⟨b+1,1,none⟩=some (.string b1)∧W.cell? ⟨b+1,2,none⟩=some (.int .i64 b2)∧W.cell? ⟨b+1,3,none⟩=some (.bool b3)∧W.cell? ⟨b+1,4,none⟩=some (.string b4)∧W.cell? ⟨b+1,5,none⟩=some (.int .i64 b5)) [16,17] (by kernel_rfl) ?_ (fun hHeld=>?_)
 ·with_reducible assumption
 refine wS 0 18 ?_;refine wS 1 19 ?_;refine wS 2 20 ?_;refine wS 3 21 ?_;refine wS 4 22 ?_;refine wS 5 23 ?_;refine wS 7 25 ?_;refine wS 8 26 ?_;refine wS 9 27 ?_;refine wS 10 28 ?_;refine wS 11 29 ?_;refine oS 6 fun K hK=>?_;go_simp;(refine F1.out.mono ?_;rintro e w6 ⟨rfl,hb6,hg6⟩;have K6:=qh (qaD K5d.out Hκ.out hg6);have hS6:=SK.out _ K6.out;have F2:=qid κ c ⟨a3,a4,a5⟩ ⟨b3,b4,b5⟩ Q R.2 w6 (by simpa using hb6) ((C0.out.drew).grown hg6 (by omega)) ((C1.out.drew).grown hg6 (by omega)) (fun W h=>S2.out W (K1.out.trans' (K6.out.trans' h)));rw[←HY.out.1,←HY.out.2]at F2;replace F2:=qh F2;clear hb6 hg6 F1)
 refine hK.out _ _ ?_ (fun hHeld=>?_)
 ·with_reducible assumption
 clear hK K;try simp only[Act.put,tdy]
 refine oS 12 fun K hK=>?_;go_simp;(refine F2.out.mono ?_;rintro e w7 ⟨rfl,hb7,hg7⟩;have K7:=qh (qaD K6.out Hκ.out hg7);have hS7:=SK.out _ K7.out;have F3:=qh (qle κ R.1 Y E w7 hb7);clear hb7 hg7 F2)
 refine hK.out _ _ ?_ (fun hHeld=>?_)
 ·with_reducible assumption
 clear hK K;try simp only[Act.put,tdy]
 refine oS 13 fun K hK=>?_;go_simp;(refine F3.out.mono ?_;rintro e w8 ⟨rfl,hk8⟩;have K8:=qh (K7.out.trans' hk8);have hS8:=SK.out _ K8.out;rw[HR.out])
 refine hK.out _ _ ?_ (fun hHeld=>?_)
 ·with_reducible assumption
 clear hK K;try simp only[Act.put,tdy]
 refine wS 14 32 ?_;refine wS 15 33 ?_;obtain⟨e0,e1,e2,e3,e4,e5⟩:=(B2.out.kept K8.out).c6;obtain⟨f0,f1,f2,f3,f4,f5⟩:=(B2.out.kept K8.out).f6;refine eS 16 fun K hK=>?_;go_simp;refine hK.out _ _ ?_;clear hK K;try simp only[Act.put,tdy]
 refine eS 17 fun K hK=>?_;go_simp;refine hK.out _ _ ?_;clear hK K;try simp only[Act.put,tdy]
 refine dS ?_ _;go_wp2_with fail
 exact bodyPost_ret (v:=qaF RQ) (by simp[results,results67,go_sem,e0,e1,e2,e3,e4,e5,qaF]) rfl ⟨rfl,(K1.out.trans' K8.out).qde (by have:=HB.out;omega) _ _ _ _ _ _⟩
def qpY (x y:GsD):DyD×Int:=twoS (mulS x.re y.re) (mulS x.im y.im)
theorem qmE {R Q:DyD×Int} (hR:R.2=0∨R=(zD,4)) (hQ:Q.2=0∨Q=(zD,4)):
  (if (if (if R.2=0 then Q.2 else R.2)=0 then(qaE R.1 (if R.2=0 then Q.1 else zD)).2 else(if R.2=0 then Q.2 else R.2))=0 then((if (if R.2=0 then Q.2 else R.2)=0 then(qaE R.1 (if R.2=0 then Q.1 else zD)).1 else zD),0)else(zD,(if (if R.2=0 then Q.2 else R.2)=0 then(qaE R.1 (if R.2=0 then Q.1 else zD)).2 else(if R.2=0 then Q.2 else R.2))))=twoS R Q:=by
 unfold twoS;by_cases h1:R.2=0
 ·by_cases h2:Q.2=0
  ·simp only[h1,h2,if_true,and_self]
   rcases qdH R.1 Q.1 with h3|h3
   ·rw [if_pos h3]
    generalize qaE R.1 Q.1=P at *;obtain⟨P1,P2⟩:=P;simp only at h3;rw[h3]
   ·rw [h3];rfl
  ·rcases hQ with h|h
   ·exact absurd h h2
   ·subst h;simp[h1]
 ·rcases hR with h|h
  ·exact absurd h h1
  ·subst h;simp
theorem qon (x y:GsD) (w:World) (hx:gsB x=true) (hy:gsB y=true) (hT:T32 w):
  Calls prog 105 #[.agg #[.bool x.re.neg,.string x.re.n,.int .i64 x.re.e,.bool x.im.neg,.string x.im.n,.int .i64 x.im.e],.agg #[.bool y.re.neg,.string y.re.n,.int .i64 y.re.e,.bool y.im.neg,.string y.im.n,.int .i64 y.im.e]] w fun en w'=>en=.returned (qai (qpY x y))∧Kept w w':=by
 have ALL:=qh (qia x y hx hy);obtain⟨hx1,hx2⟩:=qan.1 hx;obtain⟨hy1,hy2⟩:=qan.1 hy;have S1:Hid (∀W,Kept w W→Calls prog 97 #[.agg #[.bool x.re.neg,.string x.re.n,.int .i64 x.re.e],.agg #[.bool y.re.neg,.string y.re.n,.int .i64 y.re.e]] W fun en w'=>en=.returned (qai (mulS x.re y.re))∧Kept W w'):=fun W h=>qhe x.re y.re W hx1 hy1 (hT.kept h);have S2:Hid (∀W,Kept w W→Calls prog 97 #[.agg #[.bool x.im.neg,.string x.im.n,.int .i64 x.im.e],.agg #[.bool y.im.neg,.string y.im.n,.int .i64 y.im.e]] W fun en w'=>en=.returned (qai (mulS x.im y.im))∧Kept W w'):=fun W h=>qhe x.im y.im W hx2 hy2 (hT.kept h);have HR:=qh (qmE (qgY x.re y.re) (qgY x.im y.im));unfold qpY;have hR1:qae (mulS x.re y.re).1=true:=qdf _ _;have hQ1:qae (mulS x.im y.im).1=true:=qdf _ _;generalize mulS x.re y.re=R at *;generalize mulS x.im y.im=Q at *;generalize twoS R Q=RQ at *;obtain⟨Y,hY⟩: ∃Y,Y=if R.2=0 then Q.1 else zD:=⟨_,rfl⟩
 have hY1:qae Y=true:=by rw[hY];split;exact hQ1;exact qdF
 obtain⟨E,hE⟩: ∃E,E=if R.2=0 then Q.2 else R.2:=⟨_,rfl⟩
 rw[←hY,←hE]at HR;have S3:Hid (∀W,Kept w W→Calls prog 90 #[.agg #[.bool R.1.neg,.string R.1.n,.int .i64 R.1.e],.agg #[.bool Y.neg,.string Y.n,.int .i64 Y.e]] W fun en w'=>en=.returned (qai (qaE R.1 Y))∧Kept W w'):=fun W h=>qfK R.1 Y W hR1 hY1 (hT.kept h);generalize qaE R.1 Y=P at *;obtain⟨V,hV⟩: ∃V,V=if E=0 then P.1 else zD:=⟨_,rfl⟩
 obtain⟨F,hF⟩: ∃F,F=if E=0 then P.2 else E:=⟨_,rfl⟩
 rw[←hV,←hF]at HR;have HY:=qh (And.intro hY hE);have HV:=qh (And.intro hV hF);clear hY hE hV hF hR1 hQ1 hY1;obtain⟨⟨a0,a1,a2⟩,⟨a3,a4,a5⟩⟩:=x;obtain⟨⟨b0,b1,b2⟩,⟨b3,b4,b5⟩⟩:=y;simp only at ALL S1 S2⊢;clear hx hy hx1 hx2 hy1 hy2 hT;go_enter func105,ntmps105
 go_upto_region 1 with fail
 obtain⟨b,w1,hw,hb,B0,B1,B2,K1,HB⟩:=qcj w (LC1 a0 a1 a2 a3 a4 a5) 28 (LC1 b0 b1 b2 b3 b4 b5) 28 (LC0 false ⟨#[]⟩ 0) 24;rw[←hw,←hb];clear hw hb;obtain⟨c0,c1,c2,c3,c4,c5⟩:=B0.out.c6;obtain⟨d0,d1,d2,d3,d4,d5⟩:=B1.out.c6;go_upto_region 4 with (go_at_call 56;(with_reducible refine(ALL.out _ _ ?_).mono ?_);(exact Bx.new _ _ _ _ rfl);rintro e w3 ⟨rfl,hk3⟩;have K3:=qh ((Kept.new (Below.refl _ _) _).trans' hk3))
 clear c0 c1 c2 c3 c4 c5 d0 d1 d2 d3 d4 d5 ALL hk3;have K4:=qh (Kept.new K3.out (.cells #[.int .i64 0] 185));have BK:=qh (Bx.new w3 [.int .i64 0] 185 w3.heap.size rfl);obtain⟨κ,hκ⟩: ∃g,g=w3.heap.size:=⟨_,rfl⟩
 rw[←hκ]at BK⊢;have Hκ:=qh (show w1.heap.size≤κ by have:=K3.out.size;omega);clear hκ K3;generalize(w3.alloc (.cells #[.int .i64 0] 185))=w4 at *;have KA:=qh (qg0 κ 90);have KM:=qh (qg0 κ 97)
 go_upto_region 5 with (first
  |(go_at_call 102;(with_reducible refine(KA.out _).mono ?_);rintro e w8 ⟨c9,rfl,hc9,ha0,ha1,hk8⟩)
  |(go_at_call 102;(with_reducible refine(KM.out _).mono ?_);rintro e w5 ⟨c,rfl,hc,hb0,hb1,hk5⟩))
 have K5:=qh ((K4.out.trans' hk8).trans' hk5);have BK5:=qh (BK.out.kept (hk8.trans' hk5));have A0:=qh (ha0.kept hk5);have A1:=qh (ha1.kept hk5);have C0:=qh hb0;have C1:=qh hb1;have hκc9:κ<c9:=Nat.lt_of_lt_of_le BK.out.lt hc9;have hκc:κ<c:=by have:=ha0.lt;omega
 clear hc hb0 hb1 hk5 hc9 ha0 ha1 hk8 K4 BK KA KM;have SK:Hid (∀W,Kept w1 W→(W.cell? ⟨b,0,none⟩=some (.bool a0)∧W.cell? ⟨b,1,none⟩=some (.string a1)∧W.cell? ⟨b,2,none⟩=some (.int .i64 a2)∧W.cell? ⟨b,3,none⟩=some (.bool a3)∧W.cell? ⟨b,4,none⟩=some (.string a4)∧W.cell? ⟨b,5,none⟩=some (.int .i64 a5))∧W.cell? ⟨b+1,0,none⟩=some (.bool b0)∧W.cell? ⟨b+1,1,none⟩=some (.string b1)∧W.cell? ⟨b+1,2,none⟩=some (.int .i64 b2)∧W.cell? ⟨b+1,3,none⟩=some (.bool b3)∧W.cell? ⟨b+1,4,none⟩=some (.string b4)∧W.cell? ⟨b+1,5,none⟩=some (.int .i64 b5)):=fun W h=>⟨(B0.out.kept h).c6,(B1.out.kept h).c6⟩
 have D5:Kept w5 w5.drew:=(Below.refl _ w5).drew;have K5d:=qh (K5.out.trans' D5);have F1:=qh (qiq κ c ⟨a0,a1,a2⟩ ⟨b0,b1,b2⟩ R 0 w5.drew (BK5.out.kept D5) (C0.out.kept D5) (C1.out.kept D5) (fun W h=>S1.out W (K1.out.trans' (K5d.out.trans' h))));have hS0:=SK.out _ K5d.out;clear D5;refine qac (fun W=>(W.cell? ⟨b,0,none⟩=some (.bool a0)∧W.cell? ⟨b,1,none⟩=some (.string a1)∧W.cell? ⟨b,2,none⟩=some (.int .i64 a2)∧W.cell? ⟨b,3,none⟩=some (.bool a3)∧W.cell? ⟨b,4,none⟩=some (.string a4)∧W.cell? ⟨b,5,none⟩=some (.int .i64 a5))∧W.cell? ⟨b+1,0,none⟩=some (.bool b0)∧W.cell? ⟨b+1,1,none⟩=some (.string b1)∧W.cell? ⟨b+1,2,none⟩=some (.int .i64 b2)∧W.cell? ⟨b+1,3,none⟩=some (.bool b3)∧W.cell? ⟨b+1,4,none⟩=some (.string b4)∧W.cell? ⟨b+1,5,none⟩=some (.int .i64 b5)) [18,19] (by kernel_rfl) ?_ (fun hHeld=>?_)
 ·with_reducible assumption
 refine wS 0 21 ?_;refine wS 1 22 ?_;refine wS 2 23 ?_;refine wS 3 24 ?_;refine wS 4 25 ?_;refine wS 5 26 ?_;refine wS 6 27 ?_;refine wS 8 29 ?_;refine wS 9 30 ?_;refine wS 10 31 ?_;refine wS 11 32 ?_;refine wS 12 33 ?_;refine oS 7 fun K hK=>?_;go_simp;(refine F1.out.mono ?_;rintro e w6 ⟨rfl,hb6,hg6⟩;have K6:=qh (qaD K5d.out Hκ.out hg6);have hS6:=SK.out _ K6.out;have F2:=qiq κ c ⟨a3,a4,a5⟩ ⟨b3,b4,b5⟩ Q R.2 w6 (by simpa using hb6) ((C0.out.drew).grown hg6 (by omega)) ((C1.out.drew).grown hg6 (by omega)) (fun W h=>S2.out W (K1.out.trans' (K6.out.trans' h)));rw[←HY.out.1,←HY.out.2]at F2;replace F2:=qh F2;have A0b:=qh ((A0.out.drew).grown hg6 (by omega));have A1b:=qh ((A1.out.drew).grown hg6 (by omega));clear hb6 hg6 F1)
 refine hK.out _ _ ?_ (fun hHeld=>?_)
 ·with_reducible assumption
 clear hK K;try simp only[Act.put,tdy]
 refine oS 13 fun K hK=>?_;go_simp;(refine F2.out.mono ?_;rintro e w7 ⟨rfl,hb7,hg7⟩;have K7:=qh (qaD K6.out Hκ.out hg7);have hS7:=SK.out _ K7.out;have F3:=qmp κ c9 R.1 Y P E w7 hb7 (A0b.out.grown hg7 (by omega)) (A1b.out.grown hg7 (by omega)) (fun W h=>S3.out W (K1.out.trans' (K7.out.trans' h)));rw[←HV.out.1,←HV.out.2]at F3;replace F3:=qh F3;clear hb7 hg7 F2)
 refine hK.out _ _ ?_ (fun hHeld=>?_)
 ·with_reducible assumption
 clear hK K;try simp only[Act.put,tdy]
 refine oS 14 fun K hK=>?_;go_simp;(refine F3.out.mono ?_;rintro e w9 ⟨rfl,hb9,hg9⟩;have K9:=qh (qaD K7.out Hκ.out hg9);have hS9:=SK.out _ K9.out;have F4:=qh (qoB κ V F w9 hb9);clear hb9 hg9 F3)
 refine hK.out _ _ ?_ (fun hHeld=>?_)
 ·with_reducible assumption
 clear hK K;try simp only[Act.put,tdy]
 refine oS 15 fun K hK=>?_;go_simp;(refine F4.out.mono ?_;rintro e w8 ⟨rfl,hk8⟩;have K8:=qh (K9.out.trans' hk8);have hS8:=SK.out _ K8.out;rw[HR.out])
 refine hK.out _ _ ?_ (fun hHeld=>?_)
 ·with_reducible assumption
 clear hK K;try simp only[Act.put,tdy]
 refine wS 16 37 ?_;refine wS 17 38 ?_;obtain⟨e0,e1,e2⟩:=(B2.out.kept K8.out).c3;obtain⟨f0,f1,f2⟩:=(B2.out.kept K8.out).f3;refine eS 18 fun K hK=>?_;go_simp;refine hK.out _ _ ?_;clear hK K;try simp only[Act.put,tdy]
 refine eS 19 fun K hK=>?_;go_simp;refine hK.out _ _ ?_;clear hK K;try simp only[Act.put,tdy]
 refine dS ?_ _;go_wp2_with fail
 exact bodyPost_ret (v:=qai RQ) (by simp[results,results105,go_sem,e0,e1,e2,qai]) rfl ⟨rfl,(K1.out.trans' K8.out).qaO (by have:=HB.out;omega) _ _ _⟩
end
section
set_option maxRecDepth 100000
attribute [local go_sem] run_float_arith qaM qaN qaw qaf qad
theorem qoL {x:Nat} (hx:x<18446744073709551616) (h:qb6 x=true):(Ieee.double.order x 0==some .eq)=decide (qat x=0):=by
 unfold Ieee.Format.order;rw[qcz hx h,qhK];show(some (compare (Ieee.signed (decide (SG≤x)) (qat x) (qbj x-min (qbj x) (-1074)).toNat) (Ieee.signed false 0 (-1074-min (qbj x) (-1074)).toNat))==some .eq)=_;simp only[qdw];rw[show qb5 false 0=0 from rfl,Int.zero_mul];by_cases hm:qat x=0
 ·rw [hm,decide_eq_true rfl,show qb5 (decide (SG≤x)) 0=0 by unfold qb5;split<;>rfl,Int.zero_mul]
  exact qhp 0
 ·rw [decide_eq_false hm]
  have h1:qb5 (decide (SG≤x)) (qat x)≠0:=by unfold qb5;split<;>omega
  have h2:qb5 (decide (SG≤x)) (qat x)*2 ^ (qbj x-min (qbj x) (-1074)).toNat≠0:=Int.mul_ne_zero h1 (Int.ne_of_gt (Int.pow_pos (by omega)));generalize qb5 (decide (SG≤x)) (qat x)*2 ^ (qbj x-min (qbj x) (-1074)).toNat=a at *
  have:compare a 0≠ .eq:=by
   show compareOfLessAndEq a 0≠_;unfold compareOfLessAndEq;simp only[h2,if_false];split<;>simp
  cases hc:compare a 0
  ·rfl
  ·exact absurd hc this
  ·rfl
theorem qn2 {x:Nat} (h1:4503599627370496≤x) (h2:x<qaS):(Ieee.double.order x 4503599627370496==some .lt)=false:=by
 have hx:x<9223372036854775808:=by unfold qaS at h2;omega
 have hf:qb6 x=true:=by unfold qb6;rw[Nat.mod_eq_of_lt hx];exact decide_eq_true h2
 have hr:=qcP hf;have r1:Ieee.double.read 4503599627370496=.number false 4503599627370496 (-1074):=by decide +kernel
 unfold Ieee.Format.order;rw[qcz (by omega) hf,r1,decide_eq_false (show¬SG≤x by unfold SG;omega)];have e1: ¬x / 4503599627370496 % 2048=0:=by unfold qaS at h2;omega
 have hm:4503599627370496≤qat x:=by unfold qat;rw[if_neg e1];omega
 refine qfj ?_;simp only[qdw];rw[show(-1074-min (qbj x) (-1074)).toNat=0 by omega,Int.pow_zero,Int.mul_one]
 have h3:(1:Int)≤2 ^ (qbj x-min (qbj x) (-1074)).toNat:=by
  have:=Int.pow_pos (n:=2) (m:=(qbj x-min (qbj x) (-1074)).toNat) (by omega);omega
 have h5:qb5 false (qat x)*1≤qb5 false (qat x)*2 ^ (qbj x-min (qbj x) (-1074)).toNat:=Int.mul_le_mul_of_nonneg_left h3 (by show(0:Int)≤(qat x:Int);omega);have h6:qb5 false 4503599627370496≤qb5 false (qat x):=by show((4503599627370496:Nat):Int)≤(qat x:Int);omega
 omega
theorem qiK {m p:Nat} (h0:m≠0) (hp:qbt m p) (hm:m≤9007199254740992): ∃fr,fr<4503599627370496∧Ieee.double.nearest false m 0=(p+1022)*4503599627370496+fr∧((p≤53∧fr+4503599627370496=m*2 ^ (53-p))∨(p=54∧fr=0∧m=9007199254740992))∧1≤p:=by
 have hp0:p≠0:=by rintro rfl;have:=hp.1;simp at this;exact h0 this
 by_cases h:p≤53
 ·have h1:=qmO h0 hp h
  have h2:m*2 ^ (53-p)<9007199254740992:=by
   have h1:m*2 ^ (53-p)<2 ^ p*2 ^ (53-p):=Nat.mul_lt_mul_of_pos_right hp.1 (Nat.pow_pos (by omega));rw[←Nat.pow_add,show p+(53-p)=53 by omega]at h1;exact h1
  have h3:4503599627370496≤m*2 ^ (53-p):=by
   have h1:2 ^ (p-1)*2 ^ (53-p)≤m*2 ^ (53-p):=Nat.mul_le_mul_right _ (hp.2 hp0);rw[←Nat.pow_add,show p-1+(53-p)=52 by omega]at h1;exact h1
  generalize m*2 ^ (53-p)=t at *;exact⟨t-4503599627370496,by omega,by rw[h1];omega,.inl ⟨h,by omega⟩,by omega⟩
 ·have h1:=hp.2 hp0
  have e53:(2:Nat) ^ 53=9007199254740992:=by decide
  have h2:2 ^ 53≤2 ^ (p-1):=Nat.pow_le_pow_right (by omega) (by omega);have h3:m=9007199254740992:=by omega
  have h4:p=54:=hp.uniq ⟨by rw[h3];decide,fun _=>by rw[h3];decide⟩;subst h3 h4;exact⟨0,by omega,qhF,.inr ⟨rfl,rfl,rfl⟩,by omega⟩
theorem qmM {x:Nat} (hx:x<9223372036854775808):bits BinOp.andNot .u64 (x:Int) 9218868437227405312=((x % 4503599627370496:Nat):Int):=by
 have h1:BitVec.ofInt 64 (x:Int)=BitVec.ofNat 64 x:=by rw[BitVec.ofInt_natCast]
 have h3:(BitVec.ofInt 64 (x:Int) &&& ~~~(BitVec.ofInt 64 9218868437227405312)).toNat=x % 4503599627370496:=by
  have h5: ~~~(BitVec.ofInt 64 9218868437227405312)=BitVec.ofNat 64 (2 ^ 63+(2 ^ 52-1)):=by decide
  rw[h1,h5,BitVec.toNat_and,BitVec.toNat_ofNat,BitVec.toNat_ofNat,Nat.mod_eq_of_lt (by omega),Nat.mod_eq_of_lt (by decide)];have h6:(2:Nat) ^ 63+(2 ^ 52-1)=2 ^ 63 ||| (2 ^ 52-1):=by decide
  rw[h6,Nat.and_or_distrib_left,Nat.and_two_pow_sub_one_eq_mod,qmk (by omega),if_pos (by unfold SG;omega),Nat.zero_or]
 have h4:x % 4503599627370496≤x:=Nat.mod_le _ _;show IntKind.u64.wrap (((BitVec.ofInt 64 (x:Int) &&& ~~~(BitVec.ofInt 64 9218868437227405312)).toNat:Nat):Int)=_;rw[h3];exact IntWalk.u64_in _ (by omega)
theorem qeO (m:Nat):floatOfInt .f64 (m:Int)=Ieee.double.nearest false m 0:=by
 show Ieee.double.nearest (decide ((m:Int)<0)) (m:Int).natAbs 0=_;rw[decide_eq_false (by omega),Int.natAbs_natCast]
theorem qms (w:World):Calls prog 194 #[.int .i64 1] w fun e w'=>e=.returned (.float .f64 9218868437227405312)∧w'=w:=by
 go_enter func194,ntmps194
 go_wp2
 go_ret
 exact⟨rfl,rfl⟩
theorem ql0 (x:Nat) (h1:4503599627370496≤x) (h2:x<qaS) (w:World):Calls prog 193 #[.float .f64 x] w fun e w'=>e=.returned (.tuple #[.float .f64 x,.int .i64 0])∧w'=w:=by
 have hx:x<9223372036854775808:=by unfold qaS at h2;omega
 have CA:=qh (qjv x (by omega));have e:qd8 x=x:=by unfold qd8 SG;exact Nat.mod_eq_of_lt hx
 rw[e]at CA;have o1:(FloatKind.f64.format.order x 4503599627370496==some .lt)=false:=qn2 h1 h2;clear e hx;go_enter func193,ntmps193
 go_wp2_with (go_at_call 180;(with_reducible refine(CA.out _).mono ?_);rintro e w1 ⟨rfl,hw⟩;subst hw)
 go_ret2
 exact⟨rfl,rfl⟩
set_option maxHeartbeats 3200000 in
theorem qlh (m:Nat) (q:Int) (w:World) (hm:m≤9007199254740992) (hq0: -1074≤q) (hq1:q≤971) (h:4503599627370496≤m∨q= -1074):
  Calls prog 190 #[.float .f64 (Ieee.double.nearest false m 0),.int .i64 q] w fun e w'=>e=.returned (.float .f64 (qaJ m q))∧w'=w:=by
 by_cases h0:m=0
 ·subst h0
  have hq:q= -1074:=by omega
  subst hq;rw[qgM,show qaJ 0 (-1074)=0 by decide];have o1:(FloatKind.f64.format.order 0 0==some .eq)=true:=by decide +kernel
  go_enter func190,ntmps190
  go_wp2_with fail
  go_ret
  exact⟨rfl,rfl⟩
 ·obtain⟨p,hp⟩:=qdg m
  obtain⟨fr,hf,hx,hc,hp1⟩:=qiK h0 hp hm;have hp54:p≤54:=by omega
  obtain⟨x,hxe⟩: ∃x,x=(p+1022)*4503599627370496+fr:=⟨_,rfl⟩
  rw[hx,←hxe];have x1:4503599627370496≤x:=by omega
  have x2:x<qaS:=by unfold qaS;omega
  have x3:x<9223372036854775808:=by unfold qaS at x2;omega
  have hfx:qb6 x=true:=by unfold qb6;rw[Nat.mod_eq_of_lt x3];exact decide_eq_true x2
  have o1:(FloatKind.f64.format.order x 0==some .eq)=false:=by
   show(Ieee.double.order x 0==some .eq)=false;rw[qoL (by omega) hfx];have:qat x≠0:=by unfold qat;split<;>omega
   simp[this]
  have ea:qd8 x=x:=by unfold qd8 SG;exact Nat.mod_eq_of_lt x3
  have CN:=qh (qeQ x true (qjx (by omega) hfx));have CI:=qh (qhm x (by omega) false (qlB (qlK x) (qj2 hfx)));have NO:=qh (ql0 x x1 x2);have IN:=qh qms
  have o2:(FloatKind.f64.format.order x 0==some .lt)=false:=by
   show(Ieee.double.order x 0==some .lt)=false;rw[fin_neg (by omega) hfx,decide_eq_false (show¬SG≤x by unfold SG;omega),Bool.false_and]
  obtain⟨E,hE⟩: ∃E,E=p+1022:=⟨_,rfl⟩
  have e1:(x:Int) / 4503599627370496=(E:Int):=by omega
  have b1:bits BinOp.and .i64 (E:Int) 2047=(E:Int):=by
   have: ∀y:_root_.Fin 2048,bits BinOp.and .i64 ((y.val:Nat):Int) 2047=((y.val:Nat):Int):=by decide +kernel
   exact this ⟨E,by omega⟩
  have b2:bits BinOp.andNot .u64 (x:Int) 9218868437227405312=(fr:Int):=by
   rw[qmM x3];congr 1;omega
  have e2:IntKind.i64.wrap (E:Int)=E:=IntWalk.i64_in _ (by omega);obtain⟨t,ht⟩: ∃t:Int,t=q+p-1:=⟨_,rfl⟩
  have e3:q+((E:Int)-1023)=t:=by omega
  have e4: ¬t< -1075:=by omega
  have HP:=qh (And.intro hc (And.intro hp hE));have HX:=qh (And.intro hxe ht);have HH:=qh h;have t1: -1074≤t:=by omega
  have t2:t≤1024:=by omega
  have E1:1023≤E:=by omega
  have E2:E≤1076:=by omega
  clear hx hfx ea h0 hc hp hE ht x1 x2 x3 hxe h;by_cases h1:1023<t
  ·have hr:qaJ m q=9218868437227405312:=by
    obtain⟨hc,-,-⟩:=HP.out;have:=HX.out.2;rcases hc with ⟨hc,-⟩|⟨hc,-,hc2⟩
    ·omega
    ·have:q=971:=by omega
     subst this;rw[hc2];decide +kernel
   rw[hr];clear HP HX HH hr;go_enter func190,ntmps190
   go_wp2_with (first
    |(go_at_call 144;(with_reducible refine(CN.out _).mono ?_);rintro e w3 ⟨rfl,hw⟩;replace hw:=hw.symm;subst hw)
    |(go_at_call 145;(with_reducible refine(CI.out _).mono ?_);rintro e w3 ⟨rfl,hw⟩;replace hw:=hw.symm;subst hw)
    |(go_at_call 193;(with_reducible refine(NO.out _).mono ?_);rintro e w3 ⟨rfl,hw⟩;replace hw:=hw.symm;subst hw)
    |(go_at_call 194;(with_reducible refine(IN.out _).mono ?_);rintro e w3 ⟨rfl,hw⟩;replace hw:=hw.symm;subst hw))
   go_ret
   exact⟨rfl,rfl⟩
  ·by_cases h2:t< -1022
   ·obtain⟨k,hk⟩: ∃k:Nat,(k:Int)=t+1076:=⟨(t+1076).toNat,by omega⟩
    have e5:t+53+1023=(k:Int):=by omega
    have hk9:k<2047:=by omega
    have e6:IntKind.u64.wrap (k:Int)=k:=by rw[IntKind.wrap_u64];omega
    have e7:IntKind.u64.wrap ((k:Int)*4503599627370496)=(k:Int)*4503599627370496:=by rw[IntKind.wrap_u64];omega
    have e8:bits BinOp.or .u64 (fr:Int) ((k:Int)*4503599627370496)=((k*4503599627370496+fr:Nat):Int):=by
     rw[show(k:Int)*4503599627370496=((k*4503599627370496:Nat):Int) by omega,bits_or_u64_nat _ _ (by omega) (by omega)];have:=qeW k fr 52 (by rw[show(2:Nat) ^ 52=4503599627370496 by decide];exact hf);rw[show(2:Nat) ^ 52=4503599627370496 by decide]at this;rw[this]
    have e9:floatBits .mul .f64 4368491638549381120 (k*4503599627370496+fr)=some (qaJ m q):=by
     obtain⟨hc,hp,hE⟩:=HP.out;obtain⟨hx,ht⟩:=HX.out
     have hq:q= -1074:=by
      rcases HH.out with h|h
      ·exfalso
       have h52:2 ^ 52<2 ^ p:=by rw[show(2:Nat) ^ 52=4503599627370496 by decide];exact Nat.lt_of_le_of_lt h hp.1
       have:=(Nat.pow_lt_pow_iff_right (show 1<2 by omega)).1 h52;omega
      ·exact h
     have hp52:p≤52:=by omega
     have hm0:m≠0:=by
      rintro rfl;rcases hc with ⟨-,hc⟩|⟨hc,-⟩
      ·omega
      ·omega
     have h3:=qgC hm0 hp hp52;rcases hc with ⟨-,hc⟩|⟨hc,-⟩
     ·have e:k*4503599627370496+fr=p*4503599627370496+m*2 ^ (53-p):=by
       rw[←hc,show k=p+1 by omega];omega
      rw[e]
      have h4:m<4503599627370496:=by
       have:m<2 ^ 52:=Nat.lt_of_lt_of_le hp.1 (Nat.pow_le_pow_right (by omega) hp52);rwa [show(2:Nat) ^ 52=4503599627370496 by decide]at this
      have e7:qaJ m q=m:=by
       subst hq;have e0:((-1074:Int)+1074).toNat=0:=by decide
       unfold qaJ qaS;rw[e0,Nat.zero_mul,Nat.zero_add];exact Nat.min_eq_left (by omega)
      rw[e7];exact h3
     ·omega
    clear HP HX HH hk;go_enter func190,ntmps190
    go_wp2_with (first
     |(go_at_call 144;(with_reducible refine(CN.out _).mono ?_);rintro e w3 ⟨rfl,hw⟩;replace hw:=hw.symm;subst hw)
     |(go_at_call 145;(with_reducible refine(CI.out _).mono ?_);rintro e w3 ⟨rfl,hw⟩;replace hw:=hw.symm;subst hw)
     |(go_at_call 193;(with_reducible refine(NO.out _).mono ?_);rintro e w3 ⟨rfl,hw⟩;replace hw:=hw.symm;subst hw)
     |(go_at_call 194;(with_reducible refine(IN.out _).mono ?_);rintro e w3 ⟨rfl,hw⟩;replace hw:=hw.symm;subst hw))
    go_ret
    exact⟨rfl,rfl⟩
   ·obtain⟨k,hk⟩: ∃k:Nat,(k:Int)=t+1023:=⟨(t+1023).toNat,by omega⟩
    have e5:t+1023=(k:Int):=by omega
    have hk9:k<2047:=by omega
    have hk1:1≤k:=by omega
    have e6:IntKind.u64.wrap (k:Int)=k:=by rw[IntKind.wrap_u64];omega
    have e7:IntKind.u64.wrap ((k:Int)*4503599627370496)=(k:Int)*4503599627370496:=by rw[IntKind.wrap_u64];omega
    have e8:bits BinOp.or .u64 (fr:Int) ((k:Int)*4503599627370496)=((k*4503599627370496+fr:Nat):Int):=by
     rw[show(k:Int)*4503599627370496=((k*4503599627370496:Nat):Int) by omega,bits_or_u64_nat _ _ (by omega) (by omega)];have:=qeW k fr 52 (by rw[show(2:Nat) ^ 52=4503599627370496 by decide];exact hf);rw[show(2:Nat) ^ 52=4503599627370496 by decide]at this;rw[this]
    have e9:floatBits .mul .f64 4607182418800017408 (k*4503599627370496+fr)=some (qaJ m q):=by
     obtain⟨hc,hp,hE⟩:=HP.out;obtain⟨hx,ht⟩:=HX.out;have h3:=qhI (x:=k*4503599627370496+fr) (by omega) (by unfold qaS;omega)
     have e:qaJ m q=k*4503599627370496+fr:=by
      rcases hc with ⟨hc1,hc⟩|⟨hc1,hc2,hc3⟩
      ·have hp53:p=53:=by
        rcases HH.out with h|h
        ·have h52:2 ^ 52<2 ^ p:=by rw[show(2:Nat) ^ 52=4503599627370496 by decide];exact Nat.lt_of_le_of_lt h hp.1
         have:=(Nat.pow_lt_pow_iff_right (show 1<2 by omega)).1 h52;omega
        ·omega
       rw[hp53,Nat.sub_self,Nat.pow_zero,Nat.mul_one]at hc;rw[qg (by unfold qaS;omega)];omega
      ·rw [qg (by unfold qaS;omega)]
       omega
     rw[e];exact h3
    clear HP HX HH hk;go_enter func190,ntmps190
    go_wp2_with (first
     |(go_at_call 144;(with_reducible refine(CN.out _).mono ?_);rintro e w3 ⟨rfl,hw⟩;replace hw:=hw.symm;subst hw)
     |(go_at_call 145;(with_reducible refine(CI.out _).mono ?_);rintro e w3 ⟨rfl,hw⟩;replace hw:=hw.symm;subst hw)
     |(go_at_call 193;(with_reducible refine(NO.out _).mono ?_);rintro e w3 ⟨rfl,hw⟩;replace hw:=hw.symm;subst hw)
     |(go_at_call 194;(with_reducible refine(IN.out _).mono ?_);rintro e w3 ⟨rfl,hw⟩;replace hw:=hw.symm;subst hw))
    go_ret
    exact⟨rfl,rfl⟩
theorem qer (m:Nat) (q:Int) (w:World) (hm:m≤9007199254740992) (hq0: -1074≤q) (hq1:q≤971) (h:4503599627370496≤m∨q= -1074):
  Calls prog 178 #[.float .f64 (Ieee.double.nearest false m 0),.int .i64 q] w fun e w'=>e=.returned (.float .f64 (qaJ m q))∧w'=w:=by
 have L:=qh (fun W=>qlh m q W hm hq0 hq1 h);clear hm hq0 hq1 h;go_enter func178,ntmps178
 go_wp2_with (go_at_call 190;(with_reducible refine(L.out _).mono ?_);rintro e w1 ⟨rfl,hw⟩;subst hw)
 go_ret
 exact⟨rfl,rfl⟩
theorem qiT {x:Nat} (hx:x<9223372036854775808):bits BinOp.or .u64 (x:Int) 9223372036854775808=((9223372036854775808+x:Nat):Int):=by
 have:=bits_or_u64_nat x 9223372036854775808 (by omega) (by omega);rw[show((9223372036854775808:Nat):Int)=9223372036854775808 from rfl]at this;rw[this];have h2:=qeW 1 x 63 (by rw[show(2:Nat) ^ 63=9223372036854775808 by decide];exact hx);rw[show 1*2 ^ 63=9223372036854775808 by decide]at h2;rw[h2]
theorem qdZ (x:Nat) (hx:x<9223372036854775808) (w:World):Calls prog 179 #[.float .f64 x,.float .f64 13830554455654793216] w fun e w'=>e=.returned (.float .f64 (9223372036854775808+x))∧w'=w:=by
 have hB:=qi9 (x:=x) (by omega);rw[show qd8 x=x by unfold qd8 SG;exact Nat.mod_eq_of_lt hx]at hB;have hS:bits BinOp.and .u64 13830554455654793216 9223372036854775808=9223372036854775808:=by decide
 have hO:=qiT hx;go_enter func179,ntmps179
 go_wp2
 go_ret
 exact⟨rfl,rfl⟩
end
end Go.Proofs.YtfdnledkcongaaaGreatDoor
