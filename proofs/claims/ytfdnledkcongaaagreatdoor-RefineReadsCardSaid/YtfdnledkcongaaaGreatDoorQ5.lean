/- Texts of one claim laid together: FloW, DoI, DoJ, DoM, DoK, Pak, DoN. -/
import Derived.Test.YtfdnledkcongaaaGreatDoorQ4
set_option linter.all false
namespace Go.Proofs.YtfdnledkcongaaaGreatDoor
open Go.RowKit Go.Proofs.Tryz
section
set_option maxRecDepth 100000
attribute [local go_sem] run_float_arith qaM qaN qaw qaf qad
theorem qjv (x:Nat) (h:x<18446744073709551616) (w:World):Calls prog 180 #[.float .f64 x] w fun e w'=>e=.returned (.float .f64 (qd8 x))∧w'=w:=by
 have hB:=qi9 h;clear h;go_enter func180,ntmps180
 go_wp2
 go_ret
 exact⟨rfl,rfl⟩
theorem qeQ (x:Nat) (v:Bool) (hv:(FloatKind.f64.format.order x x==some .eq)=v) (w:World):Calls prog 144 #[.float .f64 x] w fun e w'=>e=.returned (.bool (!v))∧w'=w:=by
 rw[←hv];clear hv;go_enter func144,ntmps144
 go_wp2
 go_ret
 exact⟨rfl,rfl⟩
theorem qhm (x:Nat) (h:x<18446744073709551616) (v:Bool) (hv:(FloatKind.f64.format.order (qd8 x) 9218868437227405311==some .gt)=v) (w:World):Calls prog 145 #[.float .f64 x,.int .i64 0] w fun e w'=>e=.returned (.bool v)∧w'=w:=by
 have CA:=qh (qjv x h);go_enter func145,ntmps145
 go_wp2_with (go_at_call 180;(with_reducible refine(CA.out _).mono ?_);rintro e w1 ⟨rfl,hw⟩;subst hw)
 go_ret
 exact⟨rfl,rfl⟩
theorem qj2 {x:Nat} (h:qb6 x=true):qb6 (qd8 x)=true:=by
 unfold qb6 qd8 SG at *;rw[Nat.mod_mod];exact h
theorem qlK (x:Nat):qd8 x<18446744073709551616:=by unfold qd8 SG;omega
theorem qj7 {x:Nat} (hx:x<18446744073709551616):bits BinOp.and .u64 (x:Int) 4503599627370495=((x % 4503599627370496:Nat):Int):=by
 have:=qeu (x:=x) (y:=4503599627370495) hx (by omega);rw[show((4503599627370495:Nat):Int)=4503599627370495 from rfl]at this;rw[this,show(4503599627370495:Nat)=2 ^ 52-1 by decide,Nat.and_two_pow_sub_one_eq_mod]
theorem qi7 {y:Nat} (hy:y<18446744073709551616):bits BinOp.and .u64 (y:Int) 2047=((y % 2048:Nat):Int):=by
 have:=qeu (x:=y) (y:=2047) hy (by omega);rw[show((2047:Nat):Int)=2047 from rfl]at this;rw[this,show(2047:Nat)=2 ^ 11-1 by decide,Nat.and_two_pow_sub_one_eq_mod]
theorem qn0 {m:Nat} (hm:m<4503599627370496):bits BinOp.or .i64 (m:Int) 4503599627370496=((m+4503599627370496:Nat):Int):=by
 have h1:(BitVec.ofInt 64 (m:Int)).toNat=m:=by
  rw[BitVec.ofInt_natCast,BitVec.toNat_ofNat];exact Nat.mod_eq_of_lt (by omega)
 have h2:(BitVec.ofInt 64 (4503599627370496:Int)).toNat=4503599627370496:=by decide
 show IntKind.i64.wrap ((BitVec.ofInt 64 (m:Int) ||| BitVec.ofInt 64 (4503599627370496:Int)).toNat:Int)=_
 have h3:m ||| 4503599627370496=m+4503599627370496:=by
  have:=qeW 1 m 52 (by rw[show(2:Nat) ^ 52=4503599627370496 by decide];exact hm);rw[show 1*2 ^ 52=4503599627370496 by decide]at this;rw[this];omega
 rw[BitVec.toNat_or,h1,h2,h3,IntKind.wrap_i64];omega
set_option maxHeartbeats 3200000 in
theorem qfg (x:Nat) (w:World) (hx:x<18446744073709551616) (hT:T32 w):
  Calls prog 101 #[.float .f64 x] w fun en w'=>en=.returned (qai (qa3 x))∧Kept w w':=by
 by_cases hf:qb6 x=true
 ·have o1:(FloatKind.f64.format.order x x==some .eq)=true:=qjx hx hf
  have o2:(FloatKind.f64.format.order (qd8 x) 9218868437227405311==some .gt)=false:=qlB (qlK x) (qj2 hf);have o3:(FloatKind.f64.format.order x 0==some .lt)=(decide (SG≤x)&&decide (qat x≠0)):=fin_neg hx hf;have CN:=qh (qeQ x true o1);have CI:=qh (qhm x hx false o2);have h1:=qcP hf;have h2:=qeF x;obtain⟨z,hz⟩: ∃z,z=qb5 (decide (SG≤x)) (qat x):=⟨_,rfl⟩
  have OF:Hid (∀W,Kept w W→Calls prog 132 #[.int .i64 z,.int .i64 (qbj x)] W fun en w'=>en=.returned (qai (qa3 x))∧Kept W w'):=fun W h=>by
   have e:qa3 x=qbb z (qbj x):=by unfold qa3;rw[if_pos hf,hz]
   rw[e];have hz9: -9007199254740992<z∧z<9007199254740992:=by rw[hz];unfold qb5;split<;>omega
   exact qlp z (qbj x) W (by omega) (by omega) (by omega) (by omega) (hT.kept h)
  generalize qa3 x=R at *;obtain⟨e,he⟩: ∃e,e=x / 4503599627370496 % 2048:=⟨_,rfl⟩
  obtain⟨m,hm⟩: ∃m,m=x % 4503599627370496:=⟨_,rfl⟩
  have hm9:m<4503599627370496:=by omega
  have he9:e<2048:=by omega
  have b1:=qj7 hx;rw[←hm]at b1
  have b2:bits BinOp.and .u64 ((x:Int) / 4503599627370496) 2047=(e:Int):=by
   have:=qi7 (y:=x / 4503599627370496) (by omega);rw[←he]at this;rw[←this];congr 1
  by_cases h0:e=0
  ·have em:qat x=m:=by unfold qat;rw[if_pos (by omega)];exact hm.symm
   have ee:qbj x= -1074:=by unfold qbj;rw[if_pos (by omega)]
   have HZ:=qh hz;rw[ee]at OF;rw[em]at o3 HZ;subst h0;clear em ee h1 h2 he hm hz hT he9;obtain⟨lt,hlt⟩: ∃b,b=(decide (SG≤x)&&decide (m≠0)):=⟨_,rfl⟩
   rw[←hlt]at o3;cases lt with
   |false=>
    have e0:z=((m:Nat):Int):=by
     rw[HZ.out];unfold qb5;by_cases hs:SG≤x
     ·rw [decide_eq_true hs,Bool.true_and]at hlt
      have:m=0:=by have:=of_decide_eq_false hlt.symm;omega
      rw[this];simp
     ·rw [decide_eq_false hs];simp
    rw[e0]at OF;clear hlt HZ e0;go_enter func101,ntmps101
    go_upto_region 1 with fail
    obtain⟨b,w1,hw,hb,B0,K1,HB⟩:=qa4 w (LC0 false ⟨#[]⟩ 0) 24;rw[←hw,←hb];clear hw hb
    go_wp2_with (first
     |(go_at_call 144;(with_reducible refine(CN.out _).mono ?_);rintro e w3 ⟨rfl,hw⟩;replace hw:=hw.symm;subst hw)
     |(go_at_call 145;(with_reducible refine(CI.out _).mono ?_);rintro e w3 ⟨rfl,hw⟩;replace hw:=hw.symm;subst hw)
     |(go_at_call 132;(with_reducible refine(OF.out _ K1.out).mono ?_);rintro e w4 ⟨rfl,hk4⟩;have K4:=qh hk4;obtain⟨c0,c1,c2⟩:=(B0.out.kept hk4).c3;obtain⟨f0,f1,f2⟩:=(B0.out.kept hk4).f3))
    exact bodyPost_ret (v:=qai R) (by simp[results,results101,go_sem,c0,c1,c2,qai]) rfl ⟨rfl,(K1.out.trans' K4.out).qaO HB.out _ _ _⟩
   |true=>
    have e0:z= -((m:Nat):Int):=by
     rw[HZ.out];unfold qb5;rw[eq_comm,Bool.and_eq_true,decide_eq_true_eq]at hlt;rw[decide_eq_true hlt.1];simp
    rw[e0]at OF;clear hlt HZ e0;go_enter func101,ntmps101
    go_upto_region 1 with fail
    obtain⟨b,w1,hw,hb,B0,K1,HB⟩:=qa4 w (LC0 false ⟨#[]⟩ 0) 24;rw[←hw,←hb];clear hw hb
    go_wp2_with (first
     |(go_at_call 144;(with_reducible refine(CN.out _).mono ?_);rintro e w3 ⟨rfl,hw⟩;replace hw:=hw.symm;subst hw)
     |(go_at_call 145;(with_reducible refine(CI.out _).mono ?_);rintro e w3 ⟨rfl,hw⟩;replace hw:=hw.symm;subst hw)
     |(go_at_call 132;(with_reducible refine(OF.out _ K1.out).mono ?_);rintro e w4 ⟨rfl,hk4⟩;have K4:=qh hk4;obtain⟨c0,c1,c2⟩:=(B0.out.kept hk4).c3;obtain⟨f0,f1,f2⟩:=(B0.out.kept hk4).f3))
    exact bodyPost_ret (v:=qai R) (by simp[results,results101,go_sem,c0,c1,c2,qai]) rfl ⟨rfl,(K1.out.trans' K4.out).qaO HB.out _ _ _⟩
  ·have em:qat x=m+4503599627370496:=by unfold qat;rw[if_neg (by omega),hm]
   have ee:qbj x=(e:Int)-1075:=by unfold qbj;rw[if_neg (by omega),he]
   have HZ:=qh hz;rw[ee]at OF;obtain⟨M,hM⟩: ∃M,M=m+4503599627370496:=⟨_,rfl⟩
   have b3:=qn0 hm9;rw[←hM]at b3;rw[em,←hM]at o3 HZ;have hM9:M<9007199254740992:=by omega
   have h0i: ¬(e:Int)=0:=by omega
   clear em ee h1 h2 he hm hz hT h0 hM;obtain⟨lt,hlt⟩: ∃b,b=(decide (SG≤x)&&decide (M≠0)):=⟨_,rfl⟩
   rw[←hlt]at o3;cases lt with
   |false=>
    have e0:z=((M:Nat):Int):=by
     rw[HZ.out];unfold qb5;by_cases hs:SG≤x
     ·rw [decide_eq_true hs,Bool.true_and]at hlt
      have:M=0:=by have:=of_decide_eq_false hlt.symm;omega
      rw[this];simp
     ·rw [decide_eq_false hs];simp
    rw[e0]at OF;clear hlt HZ e0;go_enter func101,ntmps101
    go_upto_region 1 with fail
    obtain⟨b,w1,hw,hb,B0,K1,HB⟩:=qa4 w (LC0 false ⟨#[]⟩ 0) 24;rw[←hw,←hb];clear hw hb
    go_wp2_with (first
     |(go_at_call 144;(with_reducible refine(CN.out _).mono ?_);rintro e w3 ⟨rfl,hw⟩;replace hw:=hw.symm;subst hw)
     |(go_at_call 145;(with_reducible refine(CI.out _).mono ?_);rintro e w3 ⟨rfl,hw⟩;replace hw:=hw.symm;subst hw)
     |(go_at_call 132;(with_reducible refine(OF.out _ K1.out).mono ?_);rintro e w4 ⟨rfl,hk4⟩;have K4:=qh hk4;obtain⟨c0,c1,c2⟩:=(B0.out.kept hk4).c3;obtain⟨f0,f1,f2⟩:=(B0.out.kept hk4).f3))
    exact bodyPost_ret (v:=qai R) (by simp[results,results101,go_sem,c0,c1,c2,qai]) rfl ⟨rfl,(K1.out.trans' K4.out).qaO HB.out _ _ _⟩
   |true=>
    have e0:z= -((M:Nat):Int):=by
     rw[HZ.out];unfold qb5;rw[eq_comm,Bool.and_eq_true,decide_eq_true_eq]at hlt;rw[decide_eq_true hlt.1];simp
    rw[e0]at OF;clear hlt HZ e0;go_enter func101,ntmps101
    go_upto_region 1 with fail
    obtain⟨b,w1,hw,hb,B0,K1,HB⟩:=qa4 w (LC0 false ⟨#[]⟩ 0) 24;rw[←hw,←hb];clear hw hb
    go_wp2_with (first
     |(go_at_call 144;(with_reducible refine(CN.out _).mono ?_);rintro e w3 ⟨rfl,hw⟩;replace hw:=hw.symm;subst hw)
     |(go_at_call 145;(with_reducible refine(CI.out _).mono ?_);rintro e w3 ⟨rfl,hw⟩;replace hw:=hw.symm;subst hw)
     |(go_at_call 132;(with_reducible refine(OF.out _ K1.out).mono ?_);rintro e w4 ⟨rfl,hk4⟩;have K4:=qh hk4;obtain⟨c0,c1,c2⟩:=(B0.out.kept hk4).c3;obtain⟨f0,f1,f2⟩:=(B0.out.kept hk4).f3))
    exact bodyPost_ret (v:=qai R) (by simp[results,results101,go_sem,c0,c1,c2,qai]) rfl ⟨rfl,(K1.out.trans' K4.out).qaO HB.out _ _ _⟩
 ·have HR:qa3 x=(zD,5):=by unfold qa3;rw[if_neg hf]
  rw[HR];clear HR hT;by_cases hn:qaS<x % 9223372036854775808
  ·have o1:(FloatKind.f64.format.order x x==some .eq)=false:=by
    rw[show FloatKind.f64.format.order x x=none from qmg hn x];rfl
   have CN:=qh (qeQ x false o1);have CI:=qh qeQ;clear hf hn;go_enter func101,ntmps101
   go_upto_region 1 with fail
   obtain⟨b,w1,hw,hb,B0,K1,HB⟩:=qa4 w (LC0 false ⟨#[]⟩ 0) 24;rw[←hw,←hb];clear hw hb;obtain⟨c0,c1,c2⟩:=B0.out.c3;obtain⟨f0,f1,f2⟩:=B0.out.f3
   go_wp2_with (first
    |(go_at_call 144;(with_reducible refine(CN.out _).mono ?_);rintro e w3 ⟨rfl,hw⟩;replace hw:=hw.symm;subst hw)
    |(go_at_call 145;(with_reducible refine(CI.out _).mono ?_);rintro e w3 ⟨rfl,hw⟩;replace hw:=hw.symm;subst hw))
   exact bodyPost_ret (v:=qai (zD,5)) (by simp[results,results101,go_sem,c0,c1,c2,qai,zD]) rfl ⟨rfl,K1.out.qaO HB.out _ _ _⟩
  ·have hi:x % 9223372036854775808=qaS:=by
    unfold qb6 at hf;rw[decide_eq_true_eq]at hf;omega
   have o1:(FloatKind.f64.format.order x x==some .eq)=true:=by
    show(Ieee.double.order x x==some .eq)=true;unfold Ieee.Format.order;rw[qi5 hi];generalize(decide (SG≤x)&&decide (x / 9223372036854775808 % 2=1))=s;cases s<;>decide
   have o2:(FloatKind.f64.format.order (qd8 x) 9218868437227405311==some .gt)=true:=by
    show(Ieee.double.order (qd8 x) 9218868437227405311==some .gt)=true;unfold qd8 SG;rw[hi];decide +kernel
   have CN:=qh (qeQ x true o1);have CI:=qh (qhm x hx true o2);clear hf hn hi;go_enter func101,ntmps101
   go_upto_region 1 with fail
   obtain⟨b,w1,hw,hb,B0,K1,HB⟩:=qa4 w (LC0 false ⟨#[]⟩ 0) 24;rw[←hw,←hb];clear hw hb;obtain⟨c0,c1,c2⟩:=B0.out.c3;obtain⟨f0,f1,f2⟩:=B0.out.f3
   go_wp2_with (first
    |(go_at_call 144;(with_reducible refine(CN.out _).mono ?_);rintro e w3 ⟨rfl,hw⟩;replace hw:=hw.symm;subst hw)
    |(go_at_call 145;(with_reducible refine(CI.out _).mono ?_);rintro e w3 ⟨rfl,hw⟩;replace hw:=hw.symm;subst hw))
   exact bodyPost_ret (v:=qai (zD,5)) (by simp[results,results101,go_sem,c0,c1,c2,qai,zD]) rfl ⟨rfl,K1.out.qaO HB.out _ _ _⟩
end
section
set_option maxHeartbeats 3200000
set_option maxRecDepth 100000
attribute [local go_sem] run_float_arith qaM qaN qaw qaf qad
theorem qeD (d:DyD) (t:Nat) (w:World) (hd:qae d=true) (h0:d.num≠0) (ht:qbt d.num.natAbs t):
  Calls prog 123 #[.agg #[.bool d.neg,.string d.n,.int .i64 d.e]] w fun en w'=>en=.returned (.tuple #[.int .i64 ((t:Int)-1+d.e),.bool true])∧Kept w w':=by
 have OF:=qh (fun W=>qkR hd W);have hxe:=(qaj hd).2.2.2;have hne:=qcA hd h0
 have BL:Hid (∀W A c (l:List Nat),l.length≤16384→Row W A (qaV l)→D8 l d.num.natAbs→Calls prog 160 #[.slice A l.length c] W fun e w'=>e=.returned (.int .i64 (t:Int))∧w'=W):=fun W A c l hl hr hdl=>
  (qnm A c l d.num.natAbs W (by omega) hr hdl).mono fun e w' ⟨t',h1,h2,h3,h4⟩=>⟨by rw[h1,h2.uniq ht],h4⟩
 have ht9:t≤8*16384:=qcT ht (qaj hd).1;obtain⟨xn,s,xe⟩:=d;simp only at OF hxe BL hne⊢;generalize(DyD.mk xn s xe).num=X at *;obtain⟨xe0,xe1⟩:=hxe;have hd0:s.data.toList≠[]:=fun h=>hne ((qbH s).1 h)
 have hz:s.toList=[]↔False:=by
  rw[Lib.toList_data];exact⟨fun h=>hd0 h,False.elim⟩
 have hz1:s.toList.isEmpty=false:=by
  cases h:s.toList with
  |nil=>exact(hz.1 h).elim
  |cons x l=>rfl
 have ew:IntKind.i64.wrap ((t:Int)-1+xe)=(t:Int)-1+xe:=IntWalk.i64_in _ (by omega);have ew2:IntKind.i64.wrap ((t:Int)-1)=(t:Int)-1:=IntWalk.i64_in _ (by omega);clear hd h0 ht hd0;go_enter func123,ntmps123
 go_upto_region 1 with fail
 obtain⟨b,w1,hw,hb,B0,K1,HB⟩:=qa4 w (LC0 xn s xe) 24;rw[←hw,←hb];clear hw hb;obtain⟨c0,c1,c2⟩:=B0.out.c3;go_wp2_with fail
 have hS0:=(B0.out.kept (Below.refl _ w1).drew).c3;refine qac (fun W=>W.cell? ⟨b,0,none⟩=some (.bool xn)∧W.cell? ⟨b,1,none⟩=some (.string s)∧W.cell? ⟨b,2,none⟩=some (.int .i64 xe)) [8,9] (by kernel_rfl) ?_ (fun hHeld=>?_)
 ·assumption
 refine wS 0 7 ?_;refine wS 1 8 ?_;refine wS 5 12 ?_;refine wS 6 13 ?_;refine oS 2 fun K hK=>?_;go_simp;(refine(OF.out _).mono ?_;rintro e w5 ⟨A,c,l,rfl,hlc,hl,hr,hdl,hk5⟩;have K5:=qh ((Below.refl _ w1).drew.trans (hk5.mono (Nat.le_refl _)));have hS5:=(B0.out.kept K5.out).c3;have BLL:=qh (BL.out w5 A c l hl hr hdl);clear hlc hl hr hdl hk5)
 refine hK.out _ _ ?_ (fun hHeld=>?_)
 ·assumption
 clear hK K;try simp only[Act.put,tdy]
 refine oS 3 fun K hK=>?_;go_simp;(refine BLL.out.mono ?_;rintro e w6 ⟨rfl,hw6⟩;subst hw6)
 refine hK.out _ _ ?_ (fun hHeld=>?_)
 ·assumption
 clear hK K;try simp only[Act.put,tdy]
 refine wS 4 11 ?_;refine wS 7 14 ?_;refine eS 8 fun K hK=>?_;go_simp;refine hK.out _ _ ?_;clear hK K;try simp only[Act.put,tdy]
 refine eS 9 fun K hK=>?_;go_simp;refine hK.out _ _ ?_;clear hK K;try simp only[Act.put,tdy]
 refine dS ?_ _;go_wp2_with fail
 go_ret2
 exact⟨rfl,K1.out.trans' K5.out⟩
theorem qi8 (n e:Int) (w:World) (h0: -9223372036854775808≤n) (h0':n≤9223372036854775807) (he:e.natAbs≤1000000000):
  Calls prog 138 #[.int .i64 n,.int .i64 e] w fun en w'=>en=.returned (qai (qbb n e))∧Kept w w':=by
 obtain⟨m,hm⟩: ∃m,m=n.natAbs:=⟨_,rfl⟩
 have OF:Hid (∀W,Calls prog 157 #[.int .u64 (m:Int)] W fun e w'=>e=.returned (.string (qa1 m))∧Kept W w'):=fun W=>qlT m W (by omega);have MK:Hid (∀W,Calls prog 156 #[.bool (decide (n<0)),.string (qa1 m),.int .i64 e] W fun en w'=>en=.returned (qai (qbb n e))∧Kept W w'):=fun W=>qio _ m n e W (by omega) hm.symm (fun _=>rfl) he;generalize qbb n e=R at *;generalize qa1 m=s at *;by_cases hn:n<0
 ·rw [decide_eq_true hn]at MK
  obtain⟨k,hk⟩: ∃k,k=18446744073709551616-m:=⟨_,rfl⟩
  have e3:IntKind.u64.wrap n=(k:Int):=by rw[IntKind.wrap_u64];omega
  have e4:IntKind.u64.wrap (-(k:Int))=(m:Int):=by rw[IntKind.wrap_u64];omega
  have hkb:k<18446744073709551616:=by omega
  clear hk;clear hm;go_enter func138,ntmps138
  go_upto_region 1 with fail
  obtain⟨b,w1,hw,hb,B0,K1,HB⟩:=qa4 w (LC0 false ⟨#[]⟩ 0) 24;rw[←hw,←hb];clear hw hb;go_upto_region 4 with fail
  clear e3 e4 hkb;go_wp2_with ((go_at_call 157;(with_reducible refine(OF.out _).mono ?_);rintro e w2 ⟨rfl,hk2⟩))
  (with_reducible refine(MK.out _).mono ?_);rintro e w3 ⟨rfl,hk3⟩;have K3:=qh ((K1.out.trans' hk2).trans' hk3);have B3:=qh ((B0.out.kept hk2).kept hk3);obtain⟨c0,c1,c2⟩:=B3.out.c3;obtain⟨f0,f1,f2⟩:=B3.out.f3
  clear h0 h0' he hn OF MK hk2 hk3;go_wp2_with fail
  exact bodyPost_ret (v:=qai R) (by simp[results,results138,go_sem,c0,c1,c2,qai]) rfl ⟨rfl,K3.out.qaO HB.out _ _ _⟩
 ·rw [decide_eq_false hn]at MK
  obtain⟨k,rfl⟩:=Int.eq_ofNat_of_zero_le (show 0≤n by omega);obtain rfl:m=k:=by omega
  clear hm;go_enter func138,ntmps138
  go_upto_region 1 with fail
  obtain⟨b,w1,hw,hb,B0,K1,HB⟩:=qa4 w (LC0 false ⟨#[]⟩ 0) 24;rw[←hw,←hb];clear hw hb
  go_wp2_with (first
   |(go_at_call 157;(with_reducible refine(OF.out _).mono ?_);rintro e w2 ⟨rfl,hk2⟩)
   |(go_at_call 156;(with_reducible refine(MK.out _).mono ?_);rintro e w3 ⟨rfl,hk3⟩;have K3:=qh ((K1.out.trans' hk2).trans' hk3);have B3:=qh ((B0.out.kept hk2).kept hk3);obtain⟨c0,c1,c2⟩:=B3.out.c3;obtain⟨f0,f1,f2⟩:=B3.out.f3))
  exact bodyPost_ret (v:=qai R) (by simp[results,results138,go_sem,c0,c1,c2,qai]) rfl ⟨rfl,K3.out.qaO HB.out _ _ _⟩
theorem qep (x:Nat) (w:World) (hx:x<18446744073709551616):
  Calls prog 118 #[.float .f64 x] w fun en w'=>en=.returned (qai (qa3 x))∧Kept w w':=by
 obtain⟨e,he⟩: ∃e,e=x / 4503599627370496 % 2048:=⟨_,rfl⟩
 obtain⟨m,hm⟩: ∃m,m=x % 4503599627370496:=⟨_,rfl⟩
 have hm9:m<4503599627370496:=by omega
 have he9:e<2048:=by omega
 have b1:=qj7 hx;rw[←hm]at b1
 have b2:bits BinOp.and .u64 ((x:Int) / 4503599627370496) 2047=(e:Int):=by
  have:=qi7 (y:=x / 4503599627370496) (by omega);rw[←he]at this;rw[←this];congr 1
 by_cases hf:qb6 x=true
 ·have hf2: ¬e=2047:=by
   have h:=of_decide_eq_true hf;unfold qaS at h;omega
  have hfI: ¬(e:Int)=2047:=by omega
  have hfR:qa3 x=qbb (qb5 (decide (SG≤x)) (qat x)) (qbj x):=by unfold qa3;rw[if_pos hf]
  have h1:=qcP hf;have h2:=qeF x
  have hsg:(qb5 (decide (SG≤x)) (qat x)).natAbs=qat x∧(qb5 (decide (SG≤x)) (qat x)≠0→decide (SG≤x)=decide (qb5 (decide (SG≤x)) (qat x)<0)):=by
   unfold qb5;by_cases hs:SG≤x
   ·rw [decide_eq_true hs]
    simp;omega
   ·rw [decide_eq_false hs]
    simp
  have hsx:((x:Int) / 9223372036854775808==1)=decide (SG≤x):=by
   rw[Bool.eq_iff_iff,beq_iff_eq,decide_eq_true_eq];unfold SG;omega
  have OF:Hid (∀W,Calls prog 157 #[.int .u64 (qat x:Nat)] W fun e w'=>e=.returned (.string (qa1 (qat x)))∧Kept W w'):=fun W=>qlT (qat x) W (by omega)
  have MK:Hid (∀W,Calls prog 156 #[.bool (decide (SG≤x)),.string (qa1 (qat x)),.int .i64 (qbj x)] W fun en w'=>en=.returned (qai (qa3 x))∧Kept W w'):=fun W=>by
   rw[hfR];exact qio _ (qat x) _ (qbj x) W (by omega) hsg.1 hsg.2 (by omega)
  generalize qa3 x=R at *;generalize qa1 (qat x)=s at *;generalize decide (SG≤x)=sg at *;by_cases h0:e=0
  ·have em:qat x=m:=by unfold qat;rw[if_pos (by omega)];exact hm.symm
   have ee:qbj x= -1074:=by unfold qbj;rw[if_pos (by omega)]
   rw[em]at OF;rw[ee]at MK;subst h0;clear em ee h1 h2 he hm hfR hf hf2 hsg he9;go_enter func118,ntmps118
   go_upto_region 1 with fail
   obtain⟨b,w1,hw,hb,B0,K1,HB⟩:=qa4 w (LC0 false ⟨#[]⟩ 0) 24;rw[←hw,←hb];clear hw hb;obtain⟨b0,b1,b2⟩:=B0.out.c3;obtain⟨g0,g1,g2⟩:=B0.out.f3
   go_wp2_with (first
    |(go_at_call 157;(with_reducible refine(OF.out _).mono ?_);rintro e w2 ⟨rfl,hk2⟩)
    |(go_at_call 156;(with_reducible refine(MK.out _).mono ?_);rintro e w3 ⟨rfl,hk3⟩;have K3:=qh ((K1.out.trans' hk2).trans' hk3);have B3:=qh ((B0.out.kept hk2).kept hk3);obtain⟨c0,c1,c2⟩:=B3.out.c3;obtain⟨f0,f1,f2⟩:=B3.out.f3))
   exact bodyPost_ret (v:=qai R) (by simp[results,results118,go_sem,c0,c1,c2,qai]) rfl ⟨rfl,K3.out.qaO HB.out _ _ _⟩
  ·have em:qat x=m+4503599627370496:=by unfold qat;rw[if_neg (by omega),hm]
   have ee:qbj x=(e:Int)-1075:=by unfold qbj;rw[if_neg (by omega),he]
   have e0: ¬(e:Int)=0:=by omega
   rw[em,show((m+4503599627370496:Nat):Int)=(m:Int)+4503599627370496 by omega]at OF;rw[ee]at MK;clear em ee h1 h2 he hm hfR hf hf2 hsg;go_enter func118,ntmps118
   go_upto_region 1 with fail
   obtain⟨b,w1,hw,hb,B0,K1,HB⟩:=qa4 w (LC0 false ⟨#[]⟩ 0) 24;rw[←hw,←hb];clear hw hb;obtain⟨b0,b1,b2⟩:=B0.out.c3;obtain⟨g0,g1,g2⟩:=B0.out.f3
   go_wp2_with (first
    |(go_at_call 157;(with_reducible refine(OF.out _).mono ?_);rintro e w2 ⟨rfl,hk2⟩)
    |(go_at_call 156;(with_reducible refine(MK.out _).mono ?_);rintro e w3 ⟨rfl,hk3⟩;have K3:=qh ((K1.out.trans' hk2).trans' hk3);have B3:=qh ((B0.out.kept hk2).kept hk3);obtain⟨c0,c1,c2⟩:=B3.out.c3;obtain⟨f0,f1,f2⟩:=B3.out.f3))
   exact bodyPost_ret (v:=qai R) (by simp[results,results118,go_sem,c0,c1,c2,qai]) rfl ⟨rfl,K3.out.qaO HB.out _ _ _⟩
 ·have hf2:e=2047:=by
   have h: ¬x % 9223372036854775808<qaS:=fun h=>hf (decide_eq_true h);unfold qaS at h;omega
  have HF:=qh (show qa3 x=(zD,5) by unfold qa3;rw[if_neg hf]);subst hf2;clear he hm;go_enter func118,ntmps118
  go_upto_region 1 with fail
  obtain⟨b,w1,hw,hb,B0,K1,HB⟩:=qa4 w (LC0 false ⟨#[]⟩ 0) 24;rw[←hw,←hb];clear hw hb;obtain⟨c0,c1,c2⟩:=B0.out.c3;obtain⟨f0,f1,f2⟩:=B0.out.f3;go_wp2_with fail
  exact bodyPost_ret (v:=qai (zD,5)) (by simp[results,results118,go_sem,c0,c1,c2,qai,zD]) rfl ⟨by rw[HF.out],K1.out.qaO HB.out _ _ _⟩
end
section
section
variable {W : World} {v v' : Value} {x y k k' : Nat}
theorem qpR (h:qbm W v x k) (h':qbm W v' y k') (hk:k≤1000000) (hk':k'≤1000000):Calls prog 136 #[v,v'] W fun e w'=> ∃u,e=.returned u∧qbm w' u (x+y) (max k k'+1)∧Kept W w':=by
 obtain⟨A,c,l,rfl,h1,h2,h3,h4⟩:=h;obtain⟨A',c',l',rfl,g1,g2,g3,g4⟩:=h';refine(qmc A A' c c' l l' x y W (by omega) (by omega) h3 g3 h4 g4).mono ?_;rintro e w' ⟨u,rfl,⟨A2,c2,l2,r1,r2,r3,r4⟩,hk⟩;exact⟨u,rfl,⟨A2,c2,l2,r1,r2,by omega,r4⟩,hk⟩
theorem qiS (h:qbm W v x k) (h':qbm W v' y k') (hk:k≤1000000) (hxy:y≤x):Calls prog 137 #[v,v'] W fun e w'=> ∃u,e=.returned u∧qbm w' u (x-y) k∧Kept W w':=by
 obtain⟨A,c,l,rfl,h1,h2,h3,h4⟩:=h;obtain⟨A',c',l',rfl,g1,g2,g3,g4⟩:=h';refine(qku A A' c c' l l' x y W (by omega) h3 g3 h4 g4 hxy).mono ?_;rintro e w' ⟨u,rfl,⟨A2,c2,l2,r1,r2,r3,r4⟩,hk⟩;exact⟨u,rfl,⟨A2,c2,l2,r1,r2,by omega,r4⟩,hk⟩
theorem qoS (h:qbm W v x k) (h':qbm W v' y k') (hk:k≤1000000) (hk':k'≤1000000):Calls prog 162 #[v,v'] W fun e w'=> ∃u,e=.returned u∧qbm w' u (x*y) (k+k'+1)∧Kept W w':=by
 obtain⟨A,c,l,rfl,h1,h2,h3,h4⟩:=h;obtain⟨A',c',l',rfl,g1,g2,g3,g4⟩:=h';refine(qkz A A' c c' l l' x y W (by omega) (by omega) h3 g3 h4 g4).mono ?_;rintro e w' ⟨u,rfl,⟨A2,c2,l2,r1,r2,r3,r4⟩,hk⟩;exact⟨u,rfl,⟨A2,c2,l2,r1,r2,by omega,r4⟩,hk⟩
theorem qfk (h:qbm W v x k) (hk:k≤1000000) (s:Nat) (hs:s≤10000000):Calls prog 125 #[v,.int .i64 (s:Int)] W fun e w'=> ∃u,e=.returned u∧qbm w' u (x*2 ^ s) (k+s / 8+1)∧Kept W w':=by
 obtain⟨A,c,l,rfl,h1,h2,h3,h4⟩:=h;refine(qmW A c l x s W (by omega) (by omega) h3 h4).mono ?_;rintro e w' ⟨u,rfl,⟨A2,c2,l2,r1,r2,r3,r4⟩,hk⟩;exact⟨u,rfl,⟨A2,c2,l2,r1,r2,by omega,r4⟩,hk⟩
theorem qlS (h:qbm W v x k) (h':qbm W v' y k') (hk:k≤1000000) (hk':k'≤1000000):Calls prog 126 #[v,v'] W fun e w'=>e=.returned (.int .i64 (qbG x y))∧Kept W w':=by
 obtain⟨A,c,l,rfl,h1,h2,h3,h4⟩:=h;obtain⟨A',c',l',rfl,g1,g2,g3,g4⟩:=h';refine(qnI A A' c c' l l' x y W (by omega) (by omega) h3 g3 h4 g4).mono ?_;rintro e w' ⟨rfl,m,rfl⟩;exact⟨rfl,qaC (Below.refl _ _) _⟩
theorem qlD (h:qbm W v x k) (hk:k≤100000) (neg:Bool) (z e:Int) (hz:z.natAbs=x) (hneg:z≠0→neg=decide (z<0)) (he:e.natAbs≤1000000000):
  Calls prog 135 #[.bool neg,v,.int .i64 e] W fun en w'=>en=.returned (qai (qbb z e))∧Kept W w':=by
 obtain⟨A,c,l,rfl,h1,h2,h3,h4⟩:=h;exact qjH neg A c l x z e W (by omega) h3 h1 h4 hz hneg he
end
theorem qmN {d:DyD} (hd:qae d=true) (w:World):Calls prog 124 #[.string d.n] w fun e w'=> ∃v,e=.returned v∧qbm w' v d.num.natAbs 16384∧Kept w w':=by
 refine(qkR hd w).mono ?_;rintro e w' ⟨A,c,l,rfl,h1,h2,h3,h4,hk⟩;exact⟨_,rfl,⟨A,c,l,rfl,h1,h2,h3,h4⟩,hk⟩
theorem qfm {s:ByteArray} (hne:s≠⟨#[]⟩):(s.toList=[]↔False)∧s.toList.isEmpty=false:=by
 have hd0:s.data.toList≠[]:=fun h=>hne ((qbH s).1 h)
 have hz:s.toList=[]↔False:=by
  rw[Lib.toList_data];exact⟨fun h=>hd0 h,False.elim⟩
 refine⟨hz,?_⟩;cases h:s.toList with
 |nil=>exact(hz.1 h).elim
 |cons x l=>rfl
theorem Kept.drew' {w W:World} (h:Kept w W):Kept w W.drew:=Below.drew h
theorem qjJ {x y:Nat} (h:y≤x):(0:Int)≤qbG x y:=by
 unfold qbG;rw[if_neg (by omega)];split<;>omega
theorem qpg {x y:DyD} (hge:y.e≤x.e) (h1:x.num≠0) (h2:y.num≠0):qaE x y=if 131080<x.e-y.e then(zD,4)else qbb (x.num*2 ^ (x.e-y.e).toNat+y.num) y.e:=by
 unfold qaE;rw[if_neg h1,if_neg h2,Int.max_eq_left hge,Int.min_eq_right hge,Int.sub_self];simp
set_option maxRecDepth 100000 in
set_option maxHeartbeats 3200000 in
theorem qlM (x y:DyD) (w:World) (hx:qae x=true) (hy:qae y=true) (hge:y.e≤x.e):
  Calls prog 91 #[.agg #[.bool x.neg,.string x.n,.int .i64 x.e],.agg #[.bool y.neg,.string y.n,.int .i64 y.e]] w fun en w'=>en=.returned (qai (qaE x y))∧Kept w w':=by
 by_cases h1:x.num=0
 ·have HA:=qh (show qaE x y=(y,0) by unfold qaE;rw[if_pos h1])
  obtain rfl:=(qaj hx).2.1 h1;obtain⟨yn,ys,ye⟩:=y;show Calls prog 91 #[.agg #[.bool false,.string ⟨#[]⟩,.int .i64 0],.agg #[.bool yn,.string ys,.int .i64 ye]] w _;clear h1 hx hy hge;go_enter func91,ntmps91
  go_upto_region 1 with fail
  obtain⟨b,w1,hw,hb,B0,B1,B2,K1,HB⟩:=qcj w (LC0 false ⟨#[]⟩ 0) 24 (LC0 yn ys ye) 24 (LC0 false ⟨#[]⟩ 0) 24;rw[←hw,←hb];clear hw hb;obtain⟨c0,c1,c2⟩:=B0.out.c3;obtain⟨d0,d1,d2⟩:=B1.out.c3;obtain⟨e0,e1,e2⟩:=B2.out.c3;obtain⟨f0,f1,f2⟩:=B2.out.f3;go_wp2_with fail
  exact bodyPost_ret (v:=qai (⟨yn,ys,ye⟩,0)) (by simp[results,results91,go_sem,e0,e1,e2,qai]) rfl ⟨by rw[HA.out],K1.out.qaO (by have:=HB.out;omega) _ _ _⟩
 ·have hxne:=qfm (qcA hx h1)
  by_cases h2:y.num=0
  ·have HA:=qh (show qaE x y=(x,0) by unfold qaE;rw[if_neg h1,if_pos h2])
   obtain rfl:=(qaj hy).2.1 h2;obtain⟨xn,xs,xe⟩:=x;show Calls prog 91 #[.agg #[.bool xn,.string xs,.int .i64 xe],.agg #[.bool false,.string ⟨#[]⟩,.int .i64 0]] w _;obtain⟨hz,hz1⟩:=hxne;simp only at hz hz1;clear h1 h2 hx hy hge;go_enter func91,ntmps91
   go_upto_region 1 with fail
   obtain⟨b,w1,hw,hb,B0,B1,B2,K1,HB⟩:=qcj w (LC0 xn xs xe) 24 (LC0 false ⟨#[]⟩ 0) 24 (LC0 false ⟨#[]⟩ 0) 24;rw[←hw,←hb];clear hw hb;obtain⟨c0,c1,c2⟩:=B0.out.c3;obtain⟨d0,d1,d2⟩:=B1.out.c3;obtain⟨e0,e1,e2⟩:=B2.out.c3;obtain⟨f0,f1,f2⟩:=B2.out.f3;go_wp2_with fail
   exact bodyPost_ret (v:=qai (⟨xn,xs,xe⟩,0)) (by simp[results,results91,go_sem,e0,e1,e2,qai]) rfl ⟨by rw[HA.out],K1.out.qaO (by have:=HB.out;omega) _ _ _⟩
  ·have hyne:=qfm (qcA hy h2)
   have HA:=qh (qpg hge h1 h2);have hxe:=(qaj hx).2.2.2;have hye:=(qaj hy).2.2.2;obtain⟨k,hk⟩: ∃k,k=(x.e-y.e).toNat:=⟨_,rfl⟩
   rw[←hk]at HA;have hkI:x.e-y.e=(k:Int):=by omega
   have OX:=qh (fun W=>qmN hx W);have OY:=qh (fun W=>qmN hy W);have SX:=qh (And.intro (qcu hx) (qcu hy));obtain⟨xn,xs,xe⟩:=x;obtain⟨yn,ys,ye⟩:=y;simp only at hxne hyne HA hxe hye hkI OX OY SX hge⊢;obtain⟨X,hX⟩: ∃X,X=(DyD.mk xn xs xe).num:=⟨_,rfl⟩
   obtain⟨Y,hY⟩: ∃Y,Y=(DyD.mk yn ys ye).num:=⟨_,rfl⟩
   rw[←hX]at h1 HA OX SX;rw[←hY]at h2 HA OY SX;generalize qaE ⟨xn,xs,xe⟩ ⟨yn,ys,ye⟩=R0 at *;obtain⟨hz,hz1⟩:=hxne;obtain⟨hz2,hz3⟩:=hyne;have i1: ¬xe<ye:=by omega
   have ew:IntKind.i64.wrap (xe-ye)=(k:Int):=by rw[IntWalk.i64_in _ (by omega)];exact hkI
   clear hX hY hx hy hk;by_cases hl:131080<k
   ·have i2:(131080:Int)<k:=by omega
    have HA2:=qh (show R0=(zD,4) by rw[HA.out,if_pos (by omega)]);clear h1 h2;go_enter func91,ntmps91
    go_upto_region 1 with fail
    obtain⟨b,w1,hw,hb,B0,B1,B2,K1,HB⟩:=qcj w (LC0 xn xs xe) 24 (LC0 yn ys ye) 24 (LC0 false ⟨#[]⟩ 0) 24;rw[←hw,←hb];clear hw hb;obtain⟨c0,c1,c2⟩:=B0.out.c3;obtain⟨d0,d1,d2⟩:=B1.out.c3;obtain⟨e0,e1,e2⟩:=B2.out.c3;obtain⟨f0,f1,f2⟩:=B2.out.f3;go_wp2_with fail
    exact bodyPost_ret (v:=qai (zD,4)) (by simp[results,results91,go_sem,e0,e1,e2,qai,zD]) rfl ⟨by rw[HA2.out],K1.out.qaO (by have:=HB.out;omega) _ _ _⟩
   ·have i2: ¬(131080:Int)<k:=by omega
    have LX:Hid (∀W v,qbm W v X.natAbs 16384→Calls prog 125 #[v,.int .i64 (k:Int)] W fun e w'=> ∃u,e=.returned u∧qbm w' u (X.natAbs*2 ^ k) 33000∧Kept W w'):=fun W v h=>(qfk h (by omega) k (by omega)).mono fun e w' ⟨u,h1,⟨A,c,l,q1,q2,q3,q4⟩,h3⟩=>⟨u,h1,⟨A,c,l,q1,q2,by omega,q4⟩,h3⟩
    have hR:R0=qbb (X*2 ^ k+Y) ye:=by rw[HA.out,if_neg (by omega)]
    obtain⟨R,hRR⟩: ∃R,R=qbb (X*2 ^ k+Y) ye:=⟨_,rfl⟩
    have HR:=qh (show R=R0 by rw[hR,hRR]);have HRR:=qh hRR;have hP:0<2 ^ k:=Nat.pow_pos (by omega);have hX2:(X*2 ^ k).natAbs=X.natAbs*2 ^ k:=qcY X k
    have hX3:X<0↔X*2 ^ k<0:=⟨fun h=>qc0 h k,fun h=>by
     by_cases h3:X<0
     ·exact h3
     ·have:0≤X*2 ^ k:=Int.mul_nonneg (by omega) (Int.le_of_lt (Int.pow_pos (by omega)));omega⟩
    obtain⟨Z,hZ⟩: ∃Z,Z=X*2 ^ k:=⟨_,rfl⟩
    rw[←hZ]at hX2 hX3 HRR;rw[←hX2]at LX;have hZ0:Z≠0:=by rw[hZ];exact Int.mul_ne_zero h1 (Int.ne_of_gt (Int.pow_pos (by omega)))
    have HS:=qh (show xn=decide (Z<0) by rw[SX.out.1,Bool.eq_iff_iff,decide_eq_true_eq,decide_eq_true_eq,hX3]);have HS2:=qh SX.out.2;clear hR hRR hP hX2 hX3 hZ SX HA;go_enter func91,ntmps91
    go_upto_region 1 with fail
    obtain⟨b,w1,hw,hb,B0,B1,B2,K1,HB⟩:=qcj w (LC0 xn xs xe) 24 (LC0 yn ys ye) 24 (LC0 false ⟨#[]⟩ 0) 24;rw[←hw,←hb];clear hw hb;obtain⟨c0,c1,c2⟩:=B0.out.c3;obtain⟨d0,d1,d2⟩:=B1.out.c3;obtain⟨e0,e1,e2⟩:=B2.out.c3;obtain⟨f0,f1,f2⟩:=B2.out.f3;have SK:Hid (∀W,Kept w1 W→(W.cell? ⟨b,0,none⟩=some (.bool xn)∧W.cell? ⟨b,1,none⟩=some (.string xs)∧W.cell? ⟨b,2,none⟩=some (.int .i64 xe))∧W.cell? ⟨b+1,0,none⟩=some (.bool yn)∧W.cell? ⟨b+1,1,none⟩=some (.string ys)∧W.cell? ⟨b+1,2,none⟩=some (.int .i64 ye)):=fun W h=>⟨(B0.out.kept h).c3,(B1.out.kept h).c3⟩
    go_upto_region 10 with fail
    have hS0:=SK.out _ (Below.refl _ w1).drew;refine qac (fun W=>(W.cell? ⟨b,0,none⟩=some (.bool xn)∧W.cell? ⟨b,1,none⟩=some (.string xs)∧W.cell? ⟨b,2,none⟩=some (.int .i64 xe))∧W.cell? ⟨b+1,0,none⟩=some (.bool yn)∧W.cell? ⟨b+1,1,none⟩=some (.string ys)∧W.cell? ⟨b+1,2,none⟩=some (.int .i64 ye)) [8,9] (by kernel_rfl) ?_ (fun hHeld=>?_)
    ·assumption
    refine wS 0 35 ?_;refine wS 1 36 ?_;refine wS 3 38 ?_;refine wS 5 40 ?_;refine wS 6 41 ?_;refine oS 2 fun K hK=>?_;go_simp;(refine(OX.out _).mono ?_;rintro e w3 ⟨v3,rfl,hv3,hk3⟩;have K3:=qh (show Kept w1 w3 from(Below.refl _ w1).drew.trans (hk3.mono (Nat.le_refl _)));have hS3:=SK.out _ K3.out;have V3:=qh hv3;clear hv3 hk3)
    refine hK.out _ _ ?_ (fun hHeld=>?_)
    ·assumption
    clear hK K;try simp only[Act.put,tdy]
    refine oS 4 fun K hK=>?_;go_simp;(refine(LX.out _ _ V3.out).mono ?_;rintro e w4 ⟨v4,rfl,hv4,hk4⟩;have K4:=qh (K3.out.trans' hk4);have hS4:=SK.out _ K4.out;have V4:=qh hv4;clear hv4 hk4)
    refine hK.out _ _ ?_ (fun hHeld=>?_)
    ·assumption
    clear hK K;try simp only[Act.put,tdy]
    refine oS 7 fun K hK=>?_;go_simp;(refine(OY.out _).mono ?_;rintro e w5 ⟨v5,rfl,hv5,hk5⟩;have K6:=qh (K4.out.trans' hk5);have hS5:=SK.out _ K6.out;have VX:=qh (V4.out.kept hk5);have VY:=qh hv5;clear hv5 hk5)
    refine hK.out _ _ ?_ (fun hHeld=>?_)
    ·assumption
    clear hK K;try simp only[Act.put,tdy]
    refine eS 8 fun K hK=>?_;go_simp;refine hK.out _ _ ?_;clear hK K;try simp only[Act.put,tdy]
    refine eS 9 fun K hK=>?_;go_simp;refine hK.out _ _ ?_;clear hK K;try simp only[Act.put,tdy]
    refine dS ?_ _;clear OX OY LX V3 V4 K3 K4;obtain⟨⟨c0,c1,c2⟩,d0,d1,d2⟩:=SK.out _ K6.out;obtain⟨e0,e1,e2⟩:=(B2.out.kept K6.out).c3;obtain⟨f0,f1,f2⟩:=(B2.out.kept K6.out).f3;by_cases hsg:xn=yn
    ·subst hsg
     have FIT:Hid (∀W u j,qbm W u (Z.natAbs+Y.natAbs) j→j≤100000→Calls prog 135 #[.bool xn,u,.int .i64 ye] W fun en w'=>en=.returned (qai R)∧Kept W w'):=fun W u j h hj=>by
      rw[HRR.out];have a1:=HS.out;have a2:=HS2.out;rw[a1]at a2;refine qlD h hj _ _ _ ?_ ?_ (by omega)
      ·rw [Bool.eq_iff_iff,decide_eq_true_eq,decide_eq_true_eq]at a2;omega
      ·intro _;rw[a1,Bool.eq_iff_iff,decide_eq_true_eq,decide_eq_true_eq];rw[Bool.eq_iff_iff,decide_eq_true_eq,decide_eq_true_eq]at a2;omega
     go_wp2_with fail
     have VX7:=qh (VX.out.kept (Below.refl _ w5).drew);have VY7:=qh (VY.out.kept (Below.refl _ w5).drew);have hS7:=SK.out _ K6.out.drew';clear c0 c1 c2 d0 d1 d2 e0 e1 e2 f0 f1 f2;refine qac (fun W=>(W.cell? ⟨b,0,none⟩=some (.bool xn)∧W.cell? ⟨b,1,none⟩=some (.string xs)∧W.cell? ⟨b,2,none⟩=some (.int .i64 xe))∧W.cell? ⟨b+1,0,none⟩=some (.bool xn)∧W.cell? ⟨b+1,1,none⟩=some (.string ys)∧W.cell? ⟨b+1,2,none⟩=some (.int .i64 ye)) [10,11] (by kernel_rfl) ?_ (fun hHeld=>?_)
     ·assumption
     refine wS 0 48 ?_;refine wS 1 49 ?_;refine wS 2 50 ?_;refine wS 3 51 ?_;refine wS 5 53 ?_;refine wS 6 54 ?_;refine oS 4 fun K hK=>?_;go_simp;(refine((qpR VX7.out VY7.out (by omega) (by omega))).mono ?_;rintro e w8 ⟨u,rfl,hu,hk8⟩;have K8:=qh (K6.out.drew'.trans' hk8);have hS8:=SK.out _ K8.out;have HU:=qh hu;clear hu hk8)
     refine hK.out _ _ ?_ (fun hHeld=>?_)
     ·assumption
     clear hK K;try simp only[Act.put,tdy]
     refine oS 7 fun K hK=>?_;go_simp;(refine(FIT.out _ u _ HU.out (by omega)).mono ?_;rintro e w9 ⟨rfl,hk9⟩;have K9:=qh (K8.out.trans' hk9);have hS9:=SK.out _ K9.out;clear hk9)
     refine hK.out _ _ ?_ (fun hHeld=>?_)
     ·assumption
     clear hK K;try simp only[Act.put,tdy]
     refine wS 8 56 ?_;refine wS 9 57 ?_;obtain⟨e0,e1,e2⟩:=(B2.out.kept K9.out).c3;obtain⟨f0,f1,f2⟩:=(B2.out.kept K9.out).f3;refine eS 10 fun K hK=>?_;go_simp;refine hK.out _ _ ?_;clear hK K;try simp only[Act.put,tdy]
     refine eS 11 fun K hK=>?_;go_simp;refine hK.out _ _ ?_;clear hK K;try simp only[Act.put,tdy]
     refine dS ?_ _;go_wp2_with fail
     exact bodyPost_ret (v:=qai R) (by simp[results,results91,go_sem,e0,e1,e2,qai]) rfl ⟨HR.out.symm ▸ rfl,(K1.out.trans' K9.out).qaO (by have:=HB.out;omega) _ _ _⟩
    ·have hsb:(xn==yn)=false:=by simpa using hsg
     have CMP:Hid (∀W v v',qbm W v Z.natAbs 33000→qbm W v' Y.natAbs 16384→Calls prog 126 #[v,v'] W fun e w'=>e=.returned (.int .i64 (qbG Z.natAbs Y.natAbs))∧Kept W w'):=fun W v v' h h'=>qlS h h' (by omega) (by omega);have a1:=HS.out;have a2:=HS2.out;have HSG:=qh (show¬(Z<0↔Y<0) by rw[a1,a2,Bool.eq_iff_iff,decide_eq_true_eq,decide_eq_true_eq]at hsg;exact hsg);clear a1 a2 hsg;by_cases hle:Y.natAbs≤Z.natAbs
     ·have hc:(0:Int)≤qbG Z.natAbs Y.natAbs:=qjJ hle
      have FIT:Hid (∀W u j,qbm W u (Z.natAbs-Y.natAbs) j→j≤100000→Calls prog 135 #[.bool xn,u,.int .i64 ye] W fun en w'=>en=.returned (qai R)∧Kept W w'):=fun W u j h hj=>by
       rw[HRR.out];have a3:=HSG.out;refine qlD h hj _ _ _ (by omega) ?_ (by omega);intro _;rw[HS.out,Bool.eq_iff_iff,decide_eq_true_eq,decide_eq_true_eq];omega
      have HLE:=qh hle;generalize qbG Z.natAbs Y.natAbs=cc at *;go_upto_region 14 with (go_at_call 126;(with_reducible refine(CMP.out _ _ _ VX.out VY.out).mono ?_);rintro e w7 ⟨rfl,hk7⟩;replace K6:=qh (K6.out.trans' hk7);replace VX:=qh (VX.out.kept hk7);replace VY:=qh (VY.out.kept hk7);clear hk7)
      have VX7:=qh (VX.out.kept (Below.refl _ w7).drew);have VY7:=qh (VY.out.kept (Below.refl _ w7).drew);have hS7:=SK.out _ K6.out.drew';clear c0 c1 c2 d0 d1 d2 e0 e1 e2 f0 f1 f2;refine qac (fun W=>(W.cell? ⟨b,0,none⟩=some (.bool xn)∧W.cell? ⟨b,1,none⟩=some (.string xs)∧W.cell? ⟨b,2,none⟩=some (.int .i64 xe))∧W.cell? ⟨b+1,0,none⟩=some (.bool yn)∧W.cell? ⟨b+1,1,none⟩=some (.string ys)∧W.cell? ⟨b+1,2,none⟩=some (.int .i64 ye)) [10,11] (by kernel_rfl) ?_ (fun hHeld=>?_)
      ·assumption
      refine wS 0 62 ?_;refine wS 1 63 ?_;refine wS 2 64 ?_;refine wS 3 65 ?_;refine wS 5 67 ?_;refine wS 6 68 ?_;refine oS 4 fun K hK=>?_;go_simp;(refine((qiS VX7.out VY7.out (by omega) HLE.out)).mono ?_;rintro e w8 ⟨u,rfl,hu,hk8⟩;have K8:=qh (K6.out.drew'.trans' hk8);have hS8:=SK.out _ K8.out;have HU:=qh hu;clear hu hk8)
      refine hK.out _ _ ?_ (fun hHeld=>?_)
      ·assumption
      clear hK K;try simp only[Act.put,tdy]
      refine oS 7 fun K hK=>?_;go_simp;(refine(FIT.out _ u _ HU.out (by omega)).mono ?_;rintro e w9 ⟨rfl,hk9⟩;have K9:=qh (K8.out.trans' hk9);have hS9:=SK.out _ K9.out;clear hk9)
      refine hK.out _ _ ?_ (fun hHeld=>?_)
      ·assumption
      clear hK K;try simp only[Act.put,tdy]
      refine wS 8 70 ?_;refine wS 9 71 ?_;obtain⟨e0,e1,e2⟩:=(B2.out.kept K9.out).c3;obtain⟨f0,f1,f2⟩:=(B2.out.kept K9.out).f3;refine eS 10 fun K hK=>?_;go_simp;refine hK.out _ _ ?_;clear hK K;try simp only[Act.put,tdy]
      refine eS 11 fun K hK=>?_;go_simp;refine hK.out _ _ ?_;clear hK K;try simp only[Act.put,tdy]
      refine dS ?_ _;go_wp2_with fail
      exact bodyPost_ret (v:=qai R) (by simp[results,results91,go_sem,e0,e1,e2,qai]) rfl ⟨HR.out.symm ▸ rfl,(K1.out.trans' K9.out).qaO (by have:=HB.out;omega) _ _ _⟩
     ·have hc: ¬(0:Int)≤qbG Z.natAbs Y.natAbs:=by rw[qcw (by omega)];omega
      have FIT:Hid (∀W u j,qbm W u (Y.natAbs-Z.natAbs) j→j≤100000→Calls prog 135 #[.bool yn,u,.int .i64 ye] W fun en w'=>en=.returned (qai R)∧Kept W w'):=fun W u j h hj=>by
       rw[HRR.out];have a3:=HSG.out;refine qlD h hj _ _ _ (by omega) ?_ (by omega);intro _;rw[HS2.out,Bool.eq_iff_iff,decide_eq_true_eq,decide_eq_true_eq];omega
      have HLE:=qh (show Z.natAbs≤Y.natAbs by omega);generalize qbG Z.natAbs Y.natAbs=cc at *;go_upto_region 15 with (go_at_call 126;(with_reducible refine(CMP.out _ _ _ VX.out VY.out).mono ?_);rintro e w7 ⟨rfl,hk7⟩;replace K6:=qh (K6.out.trans' hk7);replace VX:=qh (VX.out.kept hk7);replace VY:=qh (VY.out.kept hk7);clear hk7)
      have VX7:=qh (VX.out.kept (Below.refl _ w7).drew);have VY7:=qh (VY.out.kept (Below.refl _ w7).drew);have hS7:=SK.out _ K6.out.drew';clear c0 c1 c2 d0 d1 d2 e0 e1 e2 f0 f1 f2;refine qac (fun W=>(W.cell? ⟨b,0,none⟩=some (.bool xn)∧W.cell? ⟨b,1,none⟩=some (.string xs)∧W.cell? ⟨b,2,none⟩=some (.int .i64 xe))∧W.cell? ⟨b+1,0,none⟩=some (.bool yn)∧W.cell? ⟨b+1,1,none⟩=some (.string ys)∧W.cell? ⟨b+1,2,none⟩=some (.int .i64 ye)) [10,11] (by kernel_rfl) ?_ (fun hHeld=>?_)
      ·assumption
      refine wS 0 72 ?_;refine wS 1 73 ?_;refine wS 2 74 ?_;refine wS 3 75 ?_;refine wS 5 77 ?_;refine wS 6 78 ?_;refine oS 4 fun K hK=>?_;go_simp;(refine((qiS VY7.out VX7.out (by omega) HLE.out)).mono ?_;rintro e w8 ⟨u,rfl,hu,hk8⟩;have K8:=qh (K6.out.drew'.trans' hk8);have hS8:=SK.out _ K8.out;have HU:=qh hu;clear hu hk8)
      refine hK.out _ _ ?_ (fun hHeld=>?_)
      ·assumption
      clear hK K;try simp only[Act.put,tdy]
      refine oS 7 fun K hK=>?_;go_simp;(refine(FIT.out _ u _ HU.out (by omega)).mono ?_;rintro e w9 ⟨rfl,hk9⟩;have K9:=qh (K8.out.trans' hk9);have hS9:=SK.out _ K9.out;clear hk9)
      refine hK.out _ _ ?_ (fun hHeld=>?_)
      ·assumption
      clear hK K;try simp only[Act.put,tdy]
      refine wS 8 80 ?_;refine wS 9 81 ?_;obtain⟨e0,e1,e2⟩:=(B2.out.kept K9.out).c3;obtain⟨f0,f1,f2⟩:=(B2.out.kept K9.out).f3;refine eS 10 fun K hK=>?_;go_simp;refine hK.out _ _ ?_;clear hK K;try simp only[Act.put,tdy]
      refine eS 11 fun K hK=>?_;go_simp;refine hK.out _ _ ?_;clear hK K;try simp only[Act.put,tdy]
      refine dS ?_ _;go_wp2_with fail
      exact bodyPost_ret (v:=qai R) (by simp[results,results91,go_sem,e0,e1,e2,qai]) rfl ⟨HR.out.symm ▸ rfl,(K1.out.trans' K9.out).qaO (by have:=HB.out;omega) _ _ _⟩
end
section
set_option maxHeartbeats 3200000
set_option maxRecDepth 100000
theorem qdx (x y:DyD) (w:World) (hx:qae x=true) (hy:qae y=true):
  Calls prog 91 #[.agg #[.bool x.neg,.string x.n,.int .i64 x.e],.agg #[.bool y.neg,.string y.n,.int .i64 y.e]] w fun en w'=>en=.returned (qai (qaE x y))∧Kept w w':=by
 by_cases hge:y.e≤x.e
 ·exact qlM x y w hx hy hge
 ·by_cases h1:x.num=0
  ·have HA:=qh (show qaE x y=(y,0) by unfold qaE;rw[if_pos h1])
   obtain rfl:=(qaj hx).2.1 h1;obtain⟨yn,ys,ye⟩:=y;show Calls prog 91 #[.agg #[.bool false,.string ⟨#[]⟩,.int .i64 0],.agg #[.bool yn,.string ys,.int .i64 ye]] w _;clear h1 hx hy hge;go_enter func91,ntmps91
   go_upto_region 1 with fail
   obtain⟨b,w1,hw,hb,B0,B1,B2,K1,HB⟩:=qcj w (LC0 false ⟨#[]⟩ 0) 24 (LC0 yn ys ye) 24 (LC0 false ⟨#[]⟩ 0) 24;rw[←hw,←hb];clear hw hb;obtain⟨c0,c1,c2⟩:=B0.out.c3;obtain⟨d0,d1,d2⟩:=B1.out.c3;obtain⟨e0,e1,e2⟩:=B2.out.c3;obtain⟨f0,f1,f2⟩:=B2.out.f3;go_wp2_with fail
   exact bodyPost_ret (v:=qai (⟨yn,ys,ye⟩,0)) (by simp[results,results91,go_sem,e0,e1,e2,qai]) rfl ⟨by rw[HA.out],K1.out.qaO (by have:=HB.out;omega) _ _ _⟩
  ·have hxne:=qfm (qcA hx h1)
   by_cases h2:y.num=0
   ·have HA:=qh (show qaE x y=(x,0) by unfold qaE;rw[if_neg h1,if_pos h2])
    obtain rfl:=(qaj hy).2.1 h2;obtain⟨xn,xs,xe⟩:=x;show Calls prog 91 #[.agg #[.bool xn,.string xs,.int .i64 xe],.agg #[.bool false,.string ⟨#[]⟩,.int .i64 0]] w _;obtain⟨hz,hz1⟩:=hxne;simp only at hz hz1;clear h1 h2 hx hy hge;go_enter func91,ntmps91
    go_upto_region 1 with fail
    obtain⟨b,w1,hw,hb,B0,B1,B2,K1,HB⟩:=qcj w (LC0 xn xs xe) 24 (LC0 false ⟨#[]⟩ 0) 24 (LC0 false ⟨#[]⟩ 0) 24;rw[←hw,←hb];clear hw hb;obtain⟨c0,c1,c2⟩:=B0.out.c3;obtain⟨d0,d1,d2⟩:=B1.out.c3;obtain⟨e0,e1,e2⟩:=B2.out.c3;obtain⟨f0,f1,f2⟩:=B2.out.f3;go_wp2_with fail
    exact bodyPost_ret (v:=qai (⟨xn,xs,xe⟩,0)) (by simp[results,results91,go_sem,e0,e1,e2,qai]) rfl ⟨by rw[HA.out],K1.out.qaO (by have:=HB.out;omega) _ _ _⟩
   ·have hyne:=qfm (qcA hy h2)
    have ADD:Hid (∀W,Calls prog 91 #[.agg #[.bool y.neg,.string y.n,.int .i64 y.e],.agg #[.bool x.neg,.string x.n,.int .i64 x.e]] W fun en w'=>en=.returned (qai (qaE x y))∧Kept W w'):=fun W=>by
     rw[qnk x y hx hy];exact qlM y x W hy hx (by omega)
    generalize qaE x y=R at *;obtain⟨xn,xs,xe⟩:=x;obtain⟨yn,ys,ye⟩:=y;simp only at hxne hyne ADD hge⊢;obtain⟨hz,hz1⟩:=hxne;obtain⟨hz2,hz3⟩:=hyne;have i1:xe<ye:=by omega
    clear h1 h2 hx hy hge;go_enter func91,ntmps91
    go_upto_region 1 with fail
    obtain⟨b,w1,hw,hb,B0,B1,B2,K1,HB⟩:=qcj w (LC0 xn xs xe) 24 (LC0 yn ys ye) 24 (LC0 false ⟨#[]⟩ 0) 24;rw[←hw,←hb];clear hw hb;obtain⟨c0,c1,c2⟩:=B0.out.c3;obtain⟨d0,d1,d2⟩:=B1.out.c3;go_wp2_with (go_at_call 91;(with_reducible refine(ADD.out _).mono ?_);rintro e w2 ⟨rfl,hk2⟩;have K2:=qh hk2;obtain⟨e0,e1,e2⟩:=(B2.out.kept hk2).c3;obtain⟨f0,f1,f2⟩:=(B2.out.kept hk2).f3)
    exact bodyPost_ret (v:=qai R) (by simp[results,results91,go_sem,e0,e1,e2,qai]) rfl ⟨rfl,(K1.out.trans' K2.out).qaO (by have:=HB.out;omega) _ _ _⟩
theorem qnL (x y:DyD) (w:World) (hx:qae x=true) (hy:qae y=true):
  Calls prog 175 #[.agg #[.bool x.neg,.string x.n,.int .i64 x.e],.agg #[.bool y.neg,.string y.n,.int .i64 y.e]] w fun en w'=>en=.returned (qai (qdI x y))∧Kept w w':=by
 have NEG:=qh (fun W=>qhb y W hy);have ADD:=qh (fun W=>qdx x (negS y) W hx (qfS hy));unfold qdI;generalize qaE x (negS y)=R at *;generalize negS y=q at *;obtain⟨xn,xs,xe⟩:=x;obtain⟨yn,ys,ye⟩:=y;simp only at NEG ADD⊢;clear hx hy;go_enter func175,ntmps175
 go_upto_region 1 with fail
 obtain⟨b,w1,hw,hb,B0,B1,B2,K1,HB⟩:=qcj w (LC0 xn xs xe) 24 (LC0 yn ys ye) 24 (LC0 false ⟨#[]⟩ 0) 24;rw[←hw,←hb];clear hw hb;obtain⟨c0,c1,c2⟩:=B0.out.c3;obtain⟨d0,d1,d2⟩:=B1.out.c3;have SK:Hid (∀W,Kept w1 W→(W.cell? ⟨b,0,none⟩=some (.bool xn)∧W.cell? ⟨b,1,none⟩=some (.string xs)∧W.cell? ⟨b,2,none⟩=some (.int .i64 xe))∧W.cell? ⟨b+1,0,none⟩=some (.bool yn)∧W.cell? ⟨b+1,1,none⟩=some (.string ys)∧W.cell? ⟨b+1,2,none⟩=some (.int .i64 ye)):=fun W h=>⟨(B0.out.kept h).c3,(B1.out.kept h).c3⟩
 go_wp2_with fail
 have hS0:=SK.out _ (Below.refl _ w1).drew;refine qac (fun W=>(W.cell? ⟨b,0,none⟩=some (.bool xn)∧W.cell? ⟨b,1,none⟩=some (.string xs)∧W.cell? ⟨b,2,none⟩=some (.int .i64 xe))∧W.cell? ⟨b+1,0,none⟩=some (.bool yn)∧W.cell? ⟨b+1,1,none⟩=some (.string ys)∧W.cell? ⟨b+1,2,none⟩=some (.int .i64 ye)) [6,7] (by kernel_rfl) ?_ (fun hHeld=>?_)
 ·assumption
 refine wS 0 6 ?_;refine wS 1 7 ?_;refine oS 2 fun K hK=>?_;go_simp;(refine(NEG.out _).mono ?_;rintro e w4 ⟨rfl,hk4⟩;have K4:=qh (show Kept w1 w4 from(Below.refl _ w1).drew.trans (hk4.mono (Nat.le_refl _)));have hS4:=SK.out _ K4.out)
 refine hK.out _ _ ?_ (fun hHeld=>?_)
 ·assumption
 clear hK K;try simp only[Act.put,tdy]
 refine oS 3 fun K hK=>?_;go_simp;(refine(ADD.out _).mono ?_;rintro e w5 ⟨rfl,hk5⟩;have K5:=qh (K4.out.trans' hk5);have hS5:=SK.out _ K5.out)
 refine hK.out _ _ ?_ (fun hHeld=>?_)
 ·assumption
 clear hK K;try simp only[Act.put,tdy]
 refine wS 4 10 ?_;refine wS 5 11 ?_;obtain⟨e0,e1,e2⟩:=(B2.out.kept K5.out).c3;obtain⟨f0,f1,f2⟩:=(B2.out.kept K5.out).f3;refine eS 6 fun K hK=>?_;go_simp;refine hK.out _ _ ?_;clear hK K;try simp only[Act.put,tdy]
 refine eS 7 fun K hK=>?_;go_simp;refine hK.out _ _ ?_;clear hK K;try simp only[Act.put,tdy]
 refine dS ?_ _;go_wp2_with fail
 exact bodyPost_ret (v:=qai R) (by simp[results,results175,go_sem,e0,e1,e2,qai]) rfl ⟨rfl,(K1.out.trans' K5.out).qaO (by have:=HB.out;omega) _ _ _⟩
theorem qfV (x y:DyD) (w:World) (hx:qae x=true) (hy:qae y=true):
  Calls prog 127 #[.agg #[.bool x.neg,.string x.n,.int .i64 x.e],.agg #[.bool y.neg,.string y.n,.int .i64 y.e]] w fun en w'=>en=.returned (qai (mulS x y))∧Kept w w':=by
 by_cases h1:x.num=0
 ·have HA:=qh (show mulS x y=(zD,0) by unfold mulS;rw[h1,Int.zero_mul,qcH])
  obtain rfl:=(qaj hx).2.1 h1;obtain⟨yn,ys,ye⟩:=y;show Calls prog 127 #[.agg #[.bool false,.string ⟨#[]⟩,.int .i64 0],.agg #[.bool yn,.string ys,.int .i64 ye]] w _;clear h1 hx hy;go_enter func127,ntmps127
  go_upto_region 1 with fail
  obtain⟨b,w1,hw,hb,B0,B1,B2,K1,HB⟩:=qcj w (LC0 false ⟨#[]⟩ 0) 24 (LC0 yn ys ye) 24 (LC0 false ⟨#[]⟩ 0) 24;rw[←hw,←hb];clear hw hb;obtain⟨c0,c1,c2⟩:=B0.out.c3;obtain⟨d0,d1,d2⟩:=B1.out.c3;obtain⟨e0,e1,e2⟩:=B2.out.c3;obtain⟨f0,f1,f2⟩:=B2.out.f3;go_wp2_with fail
  exact bodyPost_ret (v:=qai (zD,0)) (by simp[results,results127,go_sem,e0,e1,e2,qai,zD]) rfl ⟨by rw[HA.out],K1.out.qaO (by have:=HB.out;omega) _ _ _⟩
 ·have hxne:=qfm (qcA hx h1)
  by_cases h2:y.num=0
  ·have HA:=qh (show mulS x y=(zD,0) by unfold mulS;rw[h2,Int.mul_zero,qcH])
   obtain rfl:=(qaj hy).2.1 h2;obtain⟨xn,xs,xe⟩:=x;show Calls prog 127 #[.agg #[.bool xn,.string xs,.int .i64 xe],.agg #[.bool false,.string ⟨#[]⟩,.int .i64 0]] w _;obtain⟨hz,hz1⟩:=hxne;simp only at hz hz1;clear h1 h2 hx hy;go_enter func127,ntmps127
   go_upto_region 1 with fail
   obtain⟨b,w1,hw,hb,B0,B1,B2,K1,HB⟩:=qcj w (LC0 xn xs xe) 24 (LC0 false ⟨#[]⟩ 0) 24 (LC0 false ⟨#[]⟩ 0) 24;rw[←hw,←hb];clear hw hb;obtain⟨c0,c1,c2⟩:=B0.out.c3;obtain⟨d0,d1,d2⟩:=B1.out.c3;obtain⟨e0,e1,e2⟩:=B2.out.c3;obtain⟨f0,f1,f2⟩:=B2.out.f3;go_wp2_with fail
   exact bodyPost_ret (v:=qai (zD,0)) (by simp[results,results127,go_sem,e0,e1,e2,qai,zD]) rfl ⟨by rw[HA.out],K1.out.qaO (by have:=HB.out;omega) _ _ _⟩
  ·have hyne:=qfm (qcA hy h2)
   have hxe:=(qaj hx).2.2.2;have hye:=(qaj hy).2.2.2;have OX:=qh (fun W=>qmN hx W);have OY:=qh (fun W=>qmN hy W);have a1:=qcu hx;have a2:=qcu hy
   have FIT:Hid (∀W u j,qbm W u (x.num.natAbs*y.num.natAbs) j→j≤100000→Calls prog 135 #[.bool (x.neg != y.neg),u,.int .i64 (x.e+y.e)] W fun en w'=>en=.returned (qai (mulS x y))∧Kept W w'):=fun W u j h hj=>by
    refine qlD h hj _ _ _ (Int.natAbs_mul _ _) ?_ (by omega);intro _;rw[a1,a2];rcases Int.lt_trichotomy x.num 0 with q1|q1|q1<;>rcases Int.lt_trichotomy y.num 0 with q2|q2|q2
    ·rw [decide_eq_true q1,decide_eq_true q2,decide_eq_false (by have:=Int.mul_pos_of_neg_of_neg q1 q2;omega)];rfl
    ·exact absurd q2 h2
    ·rw [decide_eq_true q1,decide_eq_false (by omega),decide_eq_true (Int.mul_neg_of_neg_of_pos q1 q2)];rfl
    ·exact absurd q1 h1
    ·exact absurd q1 h1
    ·exact absurd q1 h1
    ·rw [decide_eq_false (by omega),decide_eq_true q2,decide_eq_true (Int.mul_neg_of_pos_of_neg q1 q2)];rfl
    ·exact absurd q2 h2
    ·rw [decide_eq_false (by omega),decide_eq_false (by omega),decide_eq_false (by have:=Int.mul_pos q1 q2;omega)];rfl
   generalize mulS x y=R at *;obtain⟨xn,xs,xe⟩:=x;obtain⟨yn,ys,ye⟩:=y;simp only at hxne hyne OX OY FIT hxe hye⊢;generalize(DyD.mk xn xs xe).num=X at *;generalize(DyD.mk yn ys ye).num=Y at *;obtain⟨hz,hz1⟩:=hxne;obtain⟨hz2,hz3⟩:=hyne;have ew:IntKind.i64.wrap (xe+ye)=xe+ye:=IntWalk.i64_in _ (by omega);clear h1 h2 hx hy a1 a2 hxe hye;go_enter func127,ntmps127
   go_upto_region 1 with fail
   obtain⟨b,w1,hw,hb,B0,B1,B2,K1,HB⟩:=qcj w (LC0 xn xs xe) 24 (LC0 yn ys ye) 24 (LC0 false ⟨#[]⟩ 0) 24;rw[←hw,←hb];clear hw hb;obtain⟨c0,c1,c2⟩:=B0.out.c3;obtain⟨d0,d1,d2⟩:=B1.out.c3;have SK:Hid (∀W,Kept w1 W→(W.cell? ⟨b,0,none⟩=some (.bool xn)∧W.cell? ⟨b,1,none⟩=some (.string xs)∧W.cell? ⟨b,2,none⟩=some (.int .i64 xe))∧W.cell? ⟨b+1,0,none⟩=some (.bool yn)∧W.cell? ⟨b+1,1,none⟩=some (.string ys)∧W.cell? ⟨b+1,2,none⟩=some (.int .i64 ye)):=fun W h=>⟨(B0.out.kept h).c3,(B1.out.kept h).c3⟩
   go_upto_region 3 with fail
   have hS0:=SK.out _ (Below.refl _ w1).drew;refine qac (fun W=>(W.cell? ⟨b,0,none⟩=some (.bool xn)∧W.cell? ⟨b,1,none⟩=some (.string xs)∧W.cell? ⟨b,2,none⟩=some (.int .i64 xe))∧W.cell? ⟨b+1,0,none⟩=some (.bool yn)∧W.cell? ⟨b+1,1,none⟩=some (.string ys)∧W.cell? ⟨b+1,2,none⟩=some (.int .i64 ye)) [20,21] (by kernel_rfl) ?_ (fun hHeld=>?_)
   ·assumption
   refine wS 0 15 ?_;refine wS 1 16 ?_;refine wS 2 17 ?_;refine wS 3 18 ?_;refine wS 4 19 ?_;refine wS 5 20 ?_;refine wS 6 21 ?_;refine wS 8 23 ?_;refine wS 9 24 ?_;refine wS 12 27 ?_;refine wS 13 28 ?_;refine wS 14 29 ?_;refine wS 15 30 ?_;refine wS 16 31 ?_;refine oS 7 fun K hK=>?_;go_simp;(refine(OX.out _).mono ?_;rintro e w3 ⟨v3,rfl,hv3,hk3⟩;have K3:=qh (show Kept w1 w3 from(Below.refl _ w1).drew.trans (hk3.mono (Nat.le_refl _)));have hS3:=SK.out _ K3.out;have V3:=qh hv3;clear hv3 hk3)
   refine hK.out _ _ ?_ (fun hHeld=>?_)
   ·assumption
   clear hK K;try simp only[Act.put,tdy]
   refine oS 10 fun K hK=>?_;go_simp;(refine(OY.out _).mono ?_;rintro e w4 ⟨v4,rfl,hv4,hk4⟩;have K4:=qh (K3.out.trans' hk4);have hS4:=SK.out _ K4.out;have VX:=qh (V3.out.kept hk4);have VY:=qh hv4;clear hv4 hk4)
   refine hK.out _ _ ?_ (fun hHeld=>?_)
   ·assumption
   clear hK K;try simp only[Act.put,tdy]
   refine oS 11 fun K hK=>?_;go_simp;(refine(qoS VX.out VY.out (by omega) (by omega)).mono ?_;rintro e w5 ⟨u,rfl,hu,hk5⟩;have K5:=qh (K4.out.trans' hk5);have hS5:=SK.out _ K5.out;have HU:=qh hu;clear hu hk5)
   refine hK.out _ _ ?_ (fun hHeld=>?_)
   ·assumption
   clear hK K;try simp only[Act.put,tdy]
   refine oS 17 fun K hK=>?_;go_simp;(refine(FIT.out _ u _ HU.out (by omega)).mono ?_;rintro e w6 ⟨rfl,hk6⟩;have K6:=qh (K5.out.trans' hk6);have hS6:=SK.out _ K6.out;clear hk6)
   refine hK.out _ _ ?_ (fun hHeld=>?_)
   ·assumption
   clear hK K;try simp only[Act.put,tdy]
   refine wS 18 33 ?_;refine wS 19 34 ?_;obtain⟨e0,e1,e2⟩:=(B2.out.kept K6.out).c3;obtain⟨f0,f1,f2⟩:=(B2.out.kept K6.out).f3;refine eS 20 fun K hK=>?_;go_simp;refine hK.out _ _ ?_;clear hK K;try simp only[Act.put,tdy]
   refine eS 21 fun K hK=>?_;go_simp;refine hK.out _ _ ?_;clear hK K;try simp only[Act.put,tdy]
   refine dS ?_ _;go_wp2_with fail
   exact bodyPost_ret (v:=qai R) (by simp[results,results127,go_sem,e0,e1,e2,qai]) rfl ⟨rfl,(K1.out.trans' K6.out).qaO (by have:=HB.out;omega) _ _ _⟩
end
theorem qn6 {a b:Int} (h:a.sign=b.sign) (h0:a≠0):qdt a b=a.sign*qbG a.natAbs b.natAbs:=by
 rcases Int.lt_trichotomy a 0 with h1|h1|h1
 ·have h2:b<0:=by rw[Int.sign_eq_neg_one_of_neg h1]at h;exact Int.sign_eq_neg_one_iff_neg.1 h.symm
  rw[Int.sign_eq_neg_one_of_neg h1];rcases Int.lt_trichotomy a b with h3|h3|h3
  ·rw [qce h3,qdd (by omega)];rfl
  ·subst h3;rw[qgb,qei];rfl
  ·rw [qco h3,qcw (by omega)];rfl
 ·exact absurd h1 h0
 ·have h2:0<b:=by rw[Int.sign_eq_one_of_pos h1]at h;exact Int.sign_eq_one_iff_pos.1 h.symm
  rw[Int.sign_eq_one_of_pos h1];rcases Int.lt_trichotomy a b with h3|h3|h3
  ·rw [qce h3,qcw (by omega)];rfl
  ·subst h3;rw[qgb,qei];rfl
  ·rw [qco h3,qdd (by omega)];rfl
theorem qnC {x y:DyD} (h:x.num.sign=y.num.sign) (h0:x.num≠0):qdk x y=x.num.sign*qbG (x.num.natAbs*2 ^ (x.e-min x.e y.e).toNat) (y.num.natAbs*2 ^ (y.e-min x.e y.e).toNat):=by
 unfold qdk;rw[qn6 (by rw[qdj,qdj,h]) (Int.mul_ne_zero h0 (Int.ne_of_gt (Int.pow_pos (by omega)))),qdj,qcY,qcY]
set_option maxRecDepth 100000 in
set_option maxHeartbeats 3200000 in
theorem qfJ (x y:DyD) (w:World) (hx:qae x=true) (hy:qae y=true):
  Calls prog 81 #[.agg #[.bool x.neg,.string x.n,.int .i64 x.e],.agg #[.bool y.neg,.string y.n,.int .i64 y.e]] w fun en w'=>en=.returned (.int .i64 (qdk x y))∧Kept w w':=by
 have SX:=qh (fun W=>qie x W hx);have SY:=qh (fun W=>qie y W hy);by_cases h1:x.num.sign≠y.num.sign∨x.num.sign=0
 ·rw [qhX h1]
  obtain⟨xn,xs,xe⟩:=x;obtain⟨yn,ys,ye⟩:=y;simp only at SX SY⊢;obtain⟨sg,hsg⟩: ∃s,s=(DyD.mk xn xs xe).num.sign:=⟨_,rfl⟩
  obtain⟨sh,hsh⟩: ∃s,s=(DyD.mk yn ys ye).num.sign:=⟨_,rfl⟩
  rw[←hsg]at SX h1⊢;rw[←hsh]at SY h1⊢;have r1: -1≤sg∧sg≤1:=by rw[hsg];have:=Int.sign_trichotomy (DyD.mk xn xs xe).num;omega
  have r2: -1≤sh∧sh≤1:=by rw[hsh];have:=Int.sign_trichotomy (DyD.mk yn ys ye).num;omega
  clear hsg hsh hx hy;have H1:=qh h1;clear h1;rcases Int.lt_trichotomy sg sh with h3|h3|h3
  ·have HA:=qh (show(sg-sh).sign= -1 from Int.sign_eq_neg_one_of_neg (by omega))
   have h4: ¬sg=sh:=by omega
   go_enter func81,ntmps81
   go_upto_region 1 with fail
   obtain⟨b,w1,hw,hb,B0,B1,K1,HB⟩:=qa6 w (LC0 xn xs xe) 24 (LC0 yn ys ye) 24;rw[←hw,←hb];clear hw hb;obtain⟨c0,c1,c2⟩:=B0.out.c3;obtain⟨d0,d1,d2⟩:=B1.out.c3;have SK:Hid (∀W,Kept w1 W→(W.cell? ⟨b,0,none⟩=some (.bool xn)∧W.cell? ⟨b,1,none⟩=some (.string xs)∧W.cell? ⟨b,2,none⟩=some (.int .i64 xe))∧W.cell? ⟨b+1,0,none⟩=some (.bool yn)∧W.cell? ⟨b+1,1,none⟩=some (.string ys)∧W.cell? ⟨b+1,2,none⟩=some (.int .i64 ye)):=fun W h=>⟨(B0.out.kept h).c3,(B1.out.kept h).c3⟩
   have hS0:=SK.out _ (Below.refl _ w1).drew;refine qac (fun W=>(W.cell? ⟨b,0,none⟩=some (.bool xn)∧W.cell? ⟨b,1,none⟩=some (.string xs)∧W.cell? ⟨b,2,none⟩=some (.int .i64 xe))∧W.cell? ⟨b+1,0,none⟩=some (.bool yn)∧W.cell? ⟨b+1,1,none⟩=some (.string ys)∧W.cell? ⟨b+1,2,none⟩=some (.int .i64 ye)) [4,5] (by kernel_rfl) ?_ (fun hHeld=>?_)
   ·assumption
   refine wS 0 13 ?_;refine wS 2 15 ?_;refine oS 1 fun K hK=>?_;go_simp;(refine(SX.out _).mono ?_;rintro e w3 ⟨rfl,hk3⟩;have K3:=qh (show Kept w1 w3 from(Below.refl _ w1).drew.trans (hk3.mono (Nat.le_refl _)));have hS3:=SK.out _ K3.out;clear hk3)
   refine hK.out _ _ ?_ (fun hHeld=>?_)
   ·assumption
   clear hK K;try simp only[Act.put,tdy]
   refine oS 3 fun K hK=>?_;go_simp;(refine(SY.out _).mono ?_;rintro e w4 ⟨rfl,hk4⟩;have K4:=qh (K3.out.trans' hk4);have hS4:=SK.out _ K4.out;clear hk4)
   refine hK.out _ _ ?_ (fun hHeld=>?_)
   ·assumption
   clear hK K;try simp only[Act.put,tdy]
   refine eS 4 fun K hK=>?_;go_simp;refine hK.out _ _ ?_;clear hK K;try simp only[Act.put,tdy]
   refine eS 5 fun K hK=>?_;go_simp;refine hK.out _ _ ?_;clear hK K;try simp only[Act.put,tdy]
   refine dS ?_ _;clear c0 c1 c2 d0 d1 d2;obtain⟨⟨c0,c1,c2⟩,d0,d1,d2⟩:=SK.out _ K4.out;go_wp2_with fail
   go_ret
   exact⟨qaW HA.out.symm,K1.out.trans' K4.out⟩
  ·subst h3
   have h5:sg=0:=by rcases H1.out with h|h;exact absurd rfl h;exact h
   subst h5;go_enter func81,ntmps81
   go_upto_region 1 with fail
   obtain⟨b,w1,hw,hb,B0,B1,K1,HB⟩:=qa6 w (LC0 xn xs xe) 24 (LC0 yn ys ye) 24;rw[←hw,←hb];clear hw hb;obtain⟨c0,c1,c2⟩:=B0.out.c3;obtain⟨d0,d1,d2⟩:=B1.out.c3;have SK:Hid (∀W,Kept w1 W→(W.cell? ⟨b,0,none⟩=some (.bool xn)∧W.cell? ⟨b,1,none⟩=some (.string xs)∧W.cell? ⟨b,2,none⟩=some (.int .i64 xe))∧W.cell? ⟨b+1,0,none⟩=some (.bool yn)∧W.cell? ⟨b+1,1,none⟩=some (.string ys)∧W.cell? ⟨b+1,2,none⟩=some (.int .i64 ye)):=fun W h=>⟨(B0.out.kept h).c3,(B1.out.kept h).c3⟩
   have hS0:=SK.out _ (Below.refl _ w1).drew;refine qac (fun W=>(W.cell? ⟨b,0,none⟩=some (.bool xn)∧W.cell? ⟨b,1,none⟩=some (.string xs)∧W.cell? ⟨b,2,none⟩=some (.int .i64 xe))∧W.cell? ⟨b+1,0,none⟩=some (.bool yn)∧W.cell? ⟨b+1,1,none⟩=some (.string ys)∧W.cell? ⟨b+1,2,none⟩=some (.int .i64 ye)) [4,5] (by kernel_rfl) ?_ (fun hHeld=>?_)
   ·assumption
   refine wS 0 13 ?_;refine wS 2 15 ?_;refine oS 1 fun K hK=>?_;go_simp;(refine(SX.out _).mono ?_;rintro e w3 ⟨rfl,hk3⟩;have K3:=qh (show Kept w1 w3 from(Below.refl _ w1).drew.trans (hk3.mono (Nat.le_refl _)));have hS3:=SK.out _ K3.out;clear hk3)
   refine hK.out _ _ ?_ (fun hHeld=>?_)
   ·assumption
   clear hK K;try simp only[Act.put,tdy]
   refine oS 3 fun K hK=>?_;go_simp;(refine(SY.out _).mono ?_;rintro e w4 ⟨rfl,hk4⟩;have K4:=qh (K3.out.trans' hk4);have hS4:=SK.out _ K4.out;clear hk4)
   refine hK.out _ _ ?_ (fun hHeld=>?_)
   ·assumption
   clear hK K;try simp only[Act.put,tdy]
   refine eS 4 fun K hK=>?_;go_simp;refine hK.out _ _ ?_;clear hK K;try simp only[Act.put,tdy]
   refine eS 5 fun K hK=>?_;go_simp;refine hK.out _ _ ?_;clear hK K;try simp only[Act.put,tdy]
   refine dS ?_ _;clear c0 c1 c2 d0 d1 d2;obtain⟨⟨c0,c1,c2⟩,d0,d1,d2⟩:=SK.out _ K4.out;go_wp2_with fail
   go_ret
   exact⟨qaW (by simp),K1.out.trans' K4.out⟩
  ·have HA:=qh (show(sg-sh).sign=1 from Int.sign_eq_one_of_pos (by omega))
   have h4: ¬sg=sh:=by omega
   have h5: ¬sg<sh:=by omega
   go_enter func81,ntmps81
   go_upto_region 1 with fail
   obtain⟨b,w1,hw,hb,B0,B1,K1,HB⟩:=qa6 w (LC0 xn xs xe) 24 (LC0 yn ys ye) 24;rw[←hw,←hb];clear hw hb;obtain⟨c0,c1,c2⟩:=B0.out.c3;obtain⟨d0,d1,d2⟩:=B1.out.c3;have SK:Hid (∀W,Kept w1 W→(W.cell? ⟨b,0,none⟩=some (.bool xn)∧W.cell? ⟨b,1,none⟩=some (.string xs)∧W.cell? ⟨b,2,none⟩=some (.int .i64 xe))∧W.cell? ⟨b+1,0,none⟩=some (.bool yn)∧W.cell? ⟨b+1,1,none⟩=some (.string ys)∧W.cell? ⟨b+1,2,none⟩=some (.int .i64 ye)):=fun W h=>⟨(B0.out.kept h).c3,(B1.out.kept h).c3⟩
   have hS0:=SK.out _ (Below.refl _ w1).drew;refine qac (fun W=>(W.cell? ⟨b,0,none⟩=some (.bool xn)∧W.cell? ⟨b,1,none⟩=some (.string xs)∧W.cell? ⟨b,2,none⟩=some (.int .i64 xe))∧W.cell? ⟨b+1,0,none⟩=some (.bool yn)∧W.cell? ⟨b+1,1,none⟩=some (.string ys)∧W.cell? ⟨b+1,2,none⟩=some (.int .i64 ye)) [4,5] (by kernel_rfl) ?_ (fun hHeld=>?_)
   ·assumption
   refine wS 0 13 ?_;refine wS 2 15 ?_;refine oS 1 fun K hK=>?_;go_simp;(refine(SX.out _).mono ?_;rintro e w3 ⟨rfl,hk3⟩;have K3:=qh (show Kept w1 w3 from(Below.refl _ w1).drew.trans (hk3.mono (Nat.le_refl _)));have hS3:=SK.out _ K3.out;clear hk3)
   refine hK.out _ _ ?_ (fun hHeld=>?_)
   ·assumption
   clear hK K;try simp only[Act.put,tdy]
   refine oS 3 fun K hK=>?_;go_simp;(refine(SY.out _).mono ?_;rintro e w4 ⟨rfl,hk4⟩;have K4:=qh (K3.out.trans' hk4);have hS4:=SK.out _ K4.out;clear hk4)
   refine hK.out _ _ ?_ (fun hHeld=>?_)
   ·assumption
   clear hK K;try simp only[Act.put,tdy]
   refine eS 4 fun K hK=>?_;go_simp;refine hK.out _ _ ?_;clear hK K;try simp only[Act.put,tdy]
   refine eS 5 fun K hK=>?_;go_simp;refine hK.out _ _ ?_;clear hK K;try simp only[Act.put,tdy]
   refine dS ?_ _;clear c0 c1 c2 d0 d1 d2;obtain⟨⟨c0,c1,c2⟩,d0,d1,d2⟩:=SK.out _ K4.out;go_wp2_with fail
   go_ret
   exact⟨qaW HA.out.symm,K1.out.trans' K4.out⟩
 ·have h2:x.num.sign=y.num.sign:=by
   rcases Classical.em (x.num.sign=y.num.sign)with h|h
   ·exact h
   ·exact absurd (.inl h) h1
  have h3:x.num.sign≠0:=fun h=>h1 (.inr h);have hx0:x.num≠0:=fun h=>h3 (by rw[h];rfl);have hy0:y.num≠0:=fun h=>h3 (by rw[h2,h];rfl);obtain⟨p,hp⟩:=qdg x.num.natAbs;obtain⟨q,hq⟩:=qdg y.num.natAbs;have TX:=qh (fun W=>qeD x p W hx hx0 hp);have TY:=qh (fun W=>qeD y q W hy hy0 hq);have hp9:p≤8*16384:=qcT hp (qaj hx).1;have hq9:q≤8*16384:=qcT hq (qaj hy).1;have hxe:=(qaj hx).2.2.2;have hye:=(qaj hy).2.2.2;have OX:=qh (fun W=>qmN hx W);have OY:=qh (fun W=>qmN hy W);have r1:x.num.sign= -1∨x.num.sign=1:=by have:=Int.sign_trichotomy x.num;omega
  by_cases h4:(p:Int)+x.e=q+y.e
  ·rw [qnC h2 hx0]
   rw[←h2]at SY;obtain⟨k,hk⟩: ∃k,k=(x.e-min x.e y.e).toNat:=⟨_,rfl⟩
   obtain⟨j,hj⟩: ∃j,j=(y.e-min x.e y.e).toNat:=⟨_,rfl⟩
   rw[←hk,←hj];obtain⟨xn,xs,xe⟩:=x;obtain⟨yn,ys,ye⟩:=y;simp only at SX SY TX TY hxe hye OX OY r1 h4 hk hj h3⊢;generalize(DyD.mk xn xs xe).num=X at *;generalize(DyD.mk yn ys ye).num=Y at *;generalize X.sign=sg at *;obtain⟨n,hn⟩: ∃n,n=(p:Int)-1+xe:=⟨_,rfl⟩
   rw[←hn]at TX;rw[←show n=(q:Int)-1+ye by omega]at TY;have i0: ¬sg=0:=h3;have i00:(sg==0)=false:=by simpa using h3
   by_cases hlt:ye<xe
   ·have hj0:j=0:=by omega
    subst hj0;have hkI:IntKind.i64.wrap (xe-ye)=(k:Int):=by rw[IntWalk.i64_in _ (by omega)];omega
    have hkb:k≤200000:=by omega
    have LX:Hid (∀W v,qbm W v X.natAbs 16384→Calls prog 125 #[v,.int .i64 (k:Int)] W fun e w'=> ∃u,e=.returned u∧qbm w' u (X.natAbs*2 ^ k) 100000∧Kept W w'):=fun W v h=>(qfk h (by omega) k (by omega)).mono fun e w' ⟨u,h1,⟨A,c,l,q1,q2,q3,q4⟩,h3⟩=>⟨u,h1,⟨A,c,l,q1,q2,by omega,q4⟩,h3⟩
    have CMP:Hid (∀W v v',qbm W v (X.natAbs*2 ^ k) 100000→qbm W v' Y.natAbs 16384→Calls prog 126 #[v,v'] W fun e w'=>e=.returned (.int .i64 (qbG (X.natAbs*2 ^ k) (Y.natAbs*2 ^ 0)))∧Kept W w'):=fun W v v' h h'=>by rw[Nat.pow_zero,Nat.mul_one];exact qlS h h' (by omega) (by omega)
    have hcb:qbG (X.natAbs*2 ^ k) (Y.natAbs*2 ^ 0)= -1∨qbG (X.natAbs*2 ^ k) (Y.natAbs*2 ^ 0)=0∨qbG (X.natAbs*2 ^ k) (Y.natAbs*2 ^ 0)=1:=by unfold qbG;split;exact .inl rfl;split;exact .inr (.inr rfl);exact .inr (.inl rfl)
    generalize qbG (X.natAbs*2 ^ k) (Y.natAbs*2 ^ 0)=cc at *;have hw:IntKind.i64.wrap (sg*cc)=sg*cc:=by rcases r1 with r|r<;>rcases hcb with h|h|h<;>rw[r,h]<;>rfl
    clear hk hj hn hx hy h1 h2 h3 hx0 hy0 hp hq h4 hcb;go_enter func81,ntmps81
    go_upto_region 1 with fail
    obtain⟨b,w1,hw,hb,B0,B1,K1,HB⟩:=qa6 w (LC0 xn xs xe) 24 (LC0 yn ys ye) 24;rw[←hw,←hb];clear hw hb;obtain⟨c0,c1,c2⟩:=B0.out.c3;obtain⟨d0,d1,d2⟩:=B1.out.c3;have SK:Hid (∀W,Kept w1 W→(W.cell? ⟨b,0,none⟩=some (.bool xn)∧W.cell? ⟨b,1,none⟩=some (.string xs)∧W.cell? ⟨b,2,none⟩=some (.int .i64 xe))∧W.cell? ⟨b+1,0,none⟩=some (.bool yn)∧W.cell? ⟨b+1,1,none⟩=some (.string ys)∧W.cell? ⟨b+1,2,none⟩=some (.int .i64 ye)):=fun W h=>⟨(B0.out.kept h).c3,(B1.out.kept h).c3⟩
    have hS0:=SK.out _ (Below.refl _ w1).drew;refine qac (fun W=>(W.cell? ⟨b,0,none⟩=some (.bool xn)∧W.cell? ⟨b,1,none⟩=some (.string xs)∧W.cell? ⟨b,2,none⟩=some (.int .i64 xe))∧W.cell? ⟨b+1,0,none⟩=some (.bool yn)∧W.cell? ⟨b+1,1,none⟩=some (.string ys)∧W.cell? ⟨b+1,2,none⟩=some (.int .i64 ye)) [4,5] (by kernel_rfl) ?_ (fun hHeld=>?_)
    ·assumption
    refine wS 0 13 ?_;refine wS 2 15 ?_;refine oS 1 fun K hK=>?_;go_simp;(refine(SX.out _).mono ?_;rintro e w3 ⟨rfl,hk3⟩;have K3:=qh (show Kept w1 w3 from(Below.refl _ w1).drew.trans (hk3.mono (Nat.le_refl _)));have hS3:=SK.out _ K3.out;clear hk3)
    refine hK.out _ _ ?_ (fun hHeld=>?_)
    ·assumption
    clear hK K;try simp only[Act.put,tdy]
    refine oS 3 fun K hK=>?_;go_simp;(refine(SY.out _).mono ?_;rintro e w4 ⟨rfl,hk4⟩;have K4:=qh (K3.out.trans' hk4);have hS4:=SK.out _ K4.out;clear hk4)
    refine hK.out _ _ ?_ (fun hHeld=>?_)
    ·assumption
    clear hK K;try simp only[Act.put,tdy]
    refine eS 4 fun K hK=>?_;go_simp;refine hK.out _ _ ?_;clear hK K;try simp only[Act.put,tdy]
    refine eS 5 fun K hK=>?_;go_simp;refine hK.out _ _ ?_;clear hK K;try simp only[Act.put,tdy]
    refine dS ?_ _;clear c0 c1 c2 d0 d1 d2;obtain⟨⟨c0,c1,c2⟩,d0,d1,d2⟩:=SK.out _ K4.out
    go_upto_region 14 with (first
     |(go_at_call 123;(with_reducible refine(TX.out _).mono ?_);rintro e w5 ⟨rfl,hk5⟩;have K5:=qh (K4.out.trans' hk5);obtain⟨⟨c0,c1,c2⟩,d0,d1,d2⟩:=SK.out _ K5.out;clear hk5)
     |(go_at_call 123;(with_reducible refine(TY.out _).mono ?_);rintro e w6 ⟨rfl,hk6⟩;have K6:=qh (K5.out.trans' hk6);clear hk6))
    have hS6:=SK.out _ K6.out.drew';refine qac (fun W=>(W.cell? ⟨b,0,none⟩=some (.bool xn)∧W.cell? ⟨b,1,none⟩=some (.string xs)∧W.cell? ⟨b,2,none⟩=some (.int .i64 xe))∧W.cell? ⟨b+1,0,none⟩=some (.bool yn)∧W.cell? ⟨b+1,1,none⟩=some (.string ys)∧W.cell? ⟨b+1,2,none⟩=some (.int .i64 ye)) [6,7] (by kernel_rfl) ?_ (fun hHeld=>?_)
    ·assumption
    refine wS 0 49 ?_;refine wS 1 50 ?_;refine wS 3 52 ?_;refine wS 4 53 ?_;refine oS 2 fun K hK=>?_;go_simp;(refine(OX.out _).mono ?_;rintro e w7 ⟨v7,rfl,hv7,hk7⟩;have K7:=qh (K6.out.drew'.trans' hk7);have hS7:=SK.out _ K7.out;have V7:=qh hv7;clear hv7 hk7)
    refine hK.out _ _ ?_ (fun hHeld=>?_)
    ·assumption
    clear hK K;try simp only[Act.put,tdy]
    refine oS 5 fun K hK=>?_;go_simp;(refine(OY.out _).mono ?_;rintro e w8 ⟨v8,rfl,hv8,hk8⟩;have K8:=qh (K7.out.trans' hk8);have hS8:=SK.out _ K8.out;have VX:=qh (V7.out.kept hk8);have VY:=qh hv8;clear hv8 hk8)
    refine hK.out _ _ ?_ (fun hHeld=>?_)
    ·assumption
    clear hK K;try simp only[Act.put,tdy]
    refine eS 6 fun K hK=>?_;go_simp;refine hK.out _ _ ?_;clear hK K;try simp only[Act.put,tdy]
    refine eS 7 fun K hK=>?_;go_simp;refine hK.out _ _ ?_;clear hK K;try simp only[Act.put,tdy]
    refine dS ?_ _;clear c0 c1 c2 d0 d1 d2;obtain⟨⟨c0,c1,c2⟩,d0,d1,d2⟩:=SK.out _ K8.out
    go_wp2_with (first
     |(go_at_call 125;(with_reducible refine(LX.out _ _ VX.out).mono ?_);rintro e w9 ⟨v9,rfl,hv9,hk9⟩;have K9:=qh (K8.out.trans' hk9);have V9:=qh hv9;have VY9:=qh (VY.out.kept hk9);clear hk9 hv9)
     |(go_at_call 126;(with_reducible refine(CMP.out _ _ _ V9.out VY9.out).mono ?_);rintro e w10 ⟨rfl,hk10⟩;have K10:=qh (K9.out.trans' hk10);clear hk10))
    go_ret
    exact⟨rfl,K1.out.trans' K10.out⟩
   ·have hk0:k=0:=by omega
    subst hk0;have hkI:IntKind.i64.wrap (ye-xe)=(j:Int):=by rw[IntWalk.i64_in _ (by omega)];omega
    have hkb:j≤200000:=by omega
    have LY:Hid (∀W v,qbm W v Y.natAbs 16384→Calls prog 125 #[v,.int .i64 (j:Int)] W fun e w'=> ∃u,e=.returned u∧qbm w' u (Y.natAbs*2 ^ j) 100000∧Kept W w'):=fun W v h=>(qfk h (by omega) j (by omega)).mono fun e w' ⟨u,h1,⟨A,c,l,q1,q2,q3,q4⟩,h3⟩=>⟨u,h1,⟨A,c,l,q1,q2,by omega,q4⟩,h3⟩
    have CMP:Hid (∀W v v',qbm W v X.natAbs 16384→qbm W v' (Y.natAbs*2 ^ j) 100000→Calls prog 126 #[v,v'] W fun e w'=>e=.returned (.int .i64 (qbG (X.natAbs*2 ^ 0) (Y.natAbs*2 ^ j)))∧Kept W w'):=fun W v v' h h'=>by rw[Nat.pow_zero,Nat.mul_one];exact qlS h h' (by omega) (by omega)
    have hcb:qbG (X.natAbs*2 ^ 0) (Y.natAbs*2 ^ j)= -1∨qbG (X.natAbs*2 ^ 0) (Y.natAbs*2 ^ j)=0∨qbG (X.natAbs*2 ^ 0) (Y.natAbs*2 ^ j)=1:=by unfold qbG;split;exact .inl rfl;split;exact .inr (.inr rfl);exact .inr (.inl rfl)
    generalize qbG (X.natAbs*2 ^ 0) (Y.natAbs*2 ^ j)=cc at *;have hw:IntKind.i64.wrap (sg*cc)=sg*cc:=by rcases r1 with r|r<;>rcases hcb with h|h|h<;>rw[r,h]<;>rfl
    clear hk hj hn hx hy h1 h2 h3 hx0 hy0 hp hq h4 hcb;go_enter func81,ntmps81
    go_upto_region 1 with fail
    obtain⟨b,w1,hw,hb,B0,B1,K1,HB⟩:=qa6 w (LC0 xn xs xe) 24 (LC0 yn ys ye) 24;rw[←hw,←hb];clear hw hb;obtain⟨c0,c1,c2⟩:=B0.out.c3;obtain⟨d0,d1,d2⟩:=B1.out.c3;have SK:Hid (∀W,Kept w1 W→(W.cell? ⟨b,0,none⟩=some (.bool xn)∧W.cell? ⟨b,1,none⟩=some (.string xs)∧W.cell? ⟨b,2,none⟩=some (.int .i64 xe))∧W.cell? ⟨b+1,0,none⟩=some (.bool yn)∧W.cell? ⟨b+1,1,none⟩=some (.string ys)∧W.cell? ⟨b+1,2,none⟩=some (.int .i64 ye)):=fun W h=>⟨(B0.out.kept h).c3,(B1.out.kept h).c3⟩
    have hS0:=SK.out _ (Below.refl _ w1).drew;refine qac (fun W=>(W.cell? ⟨b,0,none⟩=some (.bool xn)∧W.cell? ⟨b,1,none⟩=some (.string xs)∧W.cell? ⟨b,2,none⟩=some (.int .i64 xe))∧W.cell? ⟨b+1,0,none⟩=some (.bool yn)∧W.cell? ⟨b+1,1,none⟩=some (.string ys)∧W.cell? ⟨b+1,2,none⟩=some (.int .i64 ye)) [4,5] (by kernel_rfl) ?_ (fun hHeld=>?_)
    ·assumption
    refine wS 0 13 ?_;refine wS 2 15 ?_;refine oS 1 fun K hK=>?_;go_simp;(refine(SX.out _).mono ?_;rintro e w3 ⟨rfl,hk3⟩;have K3:=qh (show Kept w1 w3 from(Below.refl _ w1).drew.trans (hk3.mono (Nat.le_refl _)));have hS3:=SK.out _ K3.out;clear hk3)
    refine hK.out _ _ ?_ (fun hHeld=>?_)
    ·assumption
    clear hK K;try simp only[Act.put,tdy]
    refine oS 3 fun K hK=>?_;go_simp;(refine(SY.out _).mono ?_;rintro e w4 ⟨rfl,hk4⟩;have K4:=qh (K3.out.trans' hk4);have hS4:=SK.out _ K4.out;clear hk4)
    refine hK.out _ _ ?_ (fun hHeld=>?_)
    ·assumption
    clear hK K;try simp only[Act.put,tdy]
    refine eS 4 fun K hK=>?_;go_simp;refine hK.out _ _ ?_;clear hK K;try simp only[Act.put,tdy]
    refine eS 5 fun K hK=>?_;go_simp;refine hK.out _ _ ?_;clear hK K;try simp only[Act.put,tdy]
    refine dS ?_ _;clear c0 c1 c2 d0 d1 d2;obtain⟨⟨c0,c1,c2⟩,d0,d1,d2⟩:=SK.out _ K4.out
    go_upto_region 14 with (first
     |(go_at_call 123;(with_reducible refine(TX.out _).mono ?_);rintro e w5 ⟨rfl,hk5⟩;have K5:=qh (K4.out.trans' hk5);obtain⟨⟨c0,c1,c2⟩,d0,d1,d2⟩:=SK.out _ K5.out;clear hk5)
     |(go_at_call 123;(with_reducible refine(TY.out _).mono ?_);rintro e w6 ⟨rfl,hk6⟩;have K6:=qh (K5.out.trans' hk6);clear hk6))
    have hS6:=SK.out _ K6.out.drew';refine qac (fun W=>(W.cell? ⟨b,0,none⟩=some (.bool xn)∧W.cell? ⟨b,1,none⟩=some (.string xs)∧W.cell? ⟨b,2,none⟩=some (.int .i64 xe))∧W.cell? ⟨b+1,0,none⟩=some (.bool yn)∧W.cell? ⟨b+1,1,none⟩=some (.string ys)∧W.cell? ⟨b+1,2,none⟩=some (.int .i64 ye)) [6,7] (by kernel_rfl) ?_ (fun hHeld=>?_)
    ·assumption
    refine wS 0 49 ?_;refine wS 1 50 ?_;refine wS 3 52 ?_;refine wS 4 53 ?_;refine oS 2 fun K hK=>?_;go_simp;(refine(OX.out _).mono ?_;rintro e w7 ⟨v7,rfl,hv7,hk7⟩;have K7:=qh (K6.out.drew'.trans' hk7);have hS7:=SK.out _ K7.out;have V7:=qh hv7;clear hv7 hk7)
    refine hK.out _ _ ?_ (fun hHeld=>?_)
    ·assumption
    clear hK K;try simp only[Act.put,tdy]
    refine oS 5 fun K hK=>?_;go_simp;(refine(OY.out _).mono ?_;rintro e w8 ⟨v8,rfl,hv8,hk8⟩;have K8:=qh (K7.out.trans' hk8);have hS8:=SK.out _ K8.out;have VX:=qh (V7.out.kept hk8);have VY:=qh hv8;clear hv8 hk8)
    refine hK.out _ _ ?_ (fun hHeld=>?_)
    ·assumption
    clear hK K;try simp only[Act.put,tdy]
    refine eS 6 fun K hK=>?_;go_simp;refine hK.out _ _ ?_;clear hK K;try simp only[Act.put,tdy]
    refine eS 7 fun K hK=>?_;go_simp;refine hK.out _ _ ?_;clear hK K;try simp only[Act.put,tdy]
    refine dS ?_ _;clear c0 c1 c2 d0 d1 d2;obtain⟨⟨c0,c1,c2⟩,d0,d1,d2⟩:=SK.out _ K8.out
    go_wp2_with (first
     |(go_at_call 125;(with_reducible refine(LY.out _ _ VY.out).mono ?_);rintro e w9 ⟨v9,rfl,hv9,hk9⟩;have K9:=qh (K8.out.trans' hk9);have V9:=qh hv9;have VX9:=qh (VX.out.kept hk9);clear hk9 hv9)
     |(go_at_call 126;(with_reducible refine(CMP.out _ _ _ VX9.out V9.out).mono ?_);rintro e w10 ⟨rfl,hk10⟩;have K10:=qh (K9.out.trans' hk10);clear hk10))
    go_ret
    exact⟨rfl,K1.out.trans' K10.out⟩
  ·rw [qje h2 hx0 hp hq h4]
   rw[←h2]at SY;obtain⟨xn,xs,xe⟩:=x;obtain⟨yn,ys,ye⟩:=y;simp only at SX SY TX TY hxe hye r1 h4 h3⊢;generalize(DyD.mk xn xs xe).num=X at *;generalize(DyD.mk yn ys ye).num=Y at *;generalize X.sign=sg at *;obtain⟨n,hn⟩: ∃n,n=(p:Int)-1+xe:=⟨_,rfl⟩
   obtain⟨m,hm⟩: ∃m,m=(q:Int)-1+ye:=⟨_,rfl⟩
   rw[←hn]at TX;rw[←hm]at TY;rw[show((p:Int)+xe-(q+ye))=n-m by omega];have h5: ¬n=m:=by omega
   have i0: ¬sg=0:=h3;have i00:(sg==0)=false:=by simpa using h3
   clear hn hm hx hy h1 h2 h3 hx0 hy0 hp hq h4 OX OY hp9 hq9;by_cases hlt:n<m
   ·have HA:=qh (show(n-m).sign= -1 from Int.sign_eq_neg_one_of_neg (by omega))
    have hneg:IntKind.i64.wrap (-sg)= -sg:=IntWalk.i64_in _ (by omega);go_enter func81,ntmps81
    go_upto_region 1 with fail
    obtain⟨b,w1,hw,hb,B0,B1,K1,HB⟩:=qa6 w (LC0 xn xs xe) 24 (LC0 yn ys ye) 24;rw[←hw,←hb];clear hw hb;obtain⟨c0,c1,c2⟩:=B0.out.c3;obtain⟨d0,d1,d2⟩:=B1.out.c3;have SK:Hid (∀W,Kept w1 W→(W.cell? ⟨b,0,none⟩=some (.bool xn)∧W.cell? ⟨b,1,none⟩=some (.string xs)∧W.cell? ⟨b,2,none⟩=some (.int .i64 xe))∧W.cell? ⟨b+1,0,none⟩=some (.bool yn)∧W.cell? ⟨b+1,1,none⟩=some (.string ys)∧W.cell? ⟨b+1,2,none⟩=some (.int .i64 ye)):=fun W h=>⟨(B0.out.kept h).c3,(B1.out.kept h).c3⟩
    have hS0:=SK.out _ (Below.refl _ w1).drew;refine qac (fun W=>(W.cell? ⟨b,0,none⟩=some (.bool xn)∧W.cell? ⟨b,1,none⟩=some (.string xs)∧W.cell? ⟨b,2,none⟩=some (.int .i64 xe))∧W.cell? ⟨b+1,0,none⟩=some (.bool yn)∧W.cell? ⟨b+1,1,none⟩=some (.string ys)∧W.cell? ⟨b+1,2,none⟩=some (.int .i64 ye)) [4,5] (by kernel_rfl) ?_ (fun hHeld=>?_)
    ·assumption
    refine wS 0 13 ?_;refine wS 2 15 ?_;refine oS 1 fun K hK=>?_;go_simp;(refine(SX.out _).mono ?_;rintro e w3 ⟨rfl,hk3⟩;have K3:=qh (show Kept w1 w3 from(Below.refl _ w1).drew.trans (hk3.mono (Nat.le_refl _)));have hS3:=SK.out _ K3.out;clear hk3)
    refine hK.out _ _ ?_ (fun hHeld=>?_)
    ·assumption
    clear hK K;try simp only[Act.put,tdy]
    refine oS 3 fun K hK=>?_;go_simp;(refine(SY.out _).mono ?_;rintro e w4 ⟨rfl,hk4⟩;have K4:=qh (K3.out.trans' hk4);have hS4:=SK.out _ K4.out;clear hk4)
    refine hK.out _ _ ?_ (fun hHeld=>?_)
    ·assumption
    clear hK K;try simp only[Act.put,tdy]
    refine eS 4 fun K hK=>?_;go_simp;refine hK.out _ _ ?_;clear hK K;try simp only[Act.put,tdy]
    refine eS 5 fun K hK=>?_;go_simp;refine hK.out _ _ ?_;clear hK K;try simp only[Act.put,tdy]
    refine dS ?_ _;clear c0 c1 c2 d0 d1 d2;obtain⟨⟨c0,c1,c2⟩,d0,d1,d2⟩:=SK.out _ K4.out
    go_wp2_with (first
     |(go_at_call 123;(with_reducible refine(TX.out _).mono ?_);rintro e w5 ⟨rfl,hk5⟩;have K5:=qh (K4.out.trans' hk5);obtain⟨⟨c0,c1,c2⟩,d0,d1,d2⟩:=SK.out _ K5.out;clear hk5)
     |(go_at_call 123;(with_reducible refine(TY.out _).mono ?_);rintro e w6 ⟨rfl,hk6⟩;have K6:=qh (K5.out.trans' hk6);clear hk6))
    go_ret
    exact⟨qaW (by rw[HA.out];omega),K1.out.trans' K6.out⟩
   ·have HA:=qh (show(n-m).sign=1 from Int.sign_eq_one_of_pos (by omega))
    go_enter func81,ntmps81
    go_upto_region 1 with fail
    obtain⟨b,w1,hw,hb,B0,B1,K1,HB⟩:=qa6 w (LC0 xn xs xe) 24 (LC0 yn ys ye) 24;rw[←hw,←hb];clear hw hb;obtain⟨c0,c1,c2⟩:=B0.out.c3;obtain⟨d0,d1,d2⟩:=B1.out.c3;have SK:Hid (∀W,Kept w1 W→(W.cell? ⟨b,0,none⟩=some (.bool xn)∧W.cell? ⟨b,1,none⟩=some (.string xs)∧W.cell? ⟨b,2,none⟩=some (.int .i64 xe))∧W.cell? ⟨b+1,0,none⟩=some (.bool yn)∧W.cell? ⟨b+1,1,none⟩=some (.string ys)∧W.cell? ⟨b+1,2,none⟩=some (.int .i64 ye)):=fun W h=>⟨(B0.out.kept h).c3,(B1.out.kept h).c3⟩
    have hS0:=SK.out _ (Below.refl _ w1).drew;refine qac (fun W=>(W.cell? ⟨b,0,none⟩=some (.bool xn)∧W.cell? ⟨b,1,none⟩=some (.string xs)∧W.cell? ⟨b,2,none⟩=some (.int .i64 xe))∧W.cell? ⟨b+1,0,none⟩=some (.bool yn)∧W.cell? ⟨b+1,1,none⟩=some (.string ys)∧W.cell? ⟨b+1,2,none⟩=some (.int .i64 ye)) [4,5] (by kernel_rfl) ?_ (fun hHeld=>?_)
    ·assumption
    refine wS 0 13 ?_;refine wS 2 15 ?_;refine oS 1 fun K hK=>?_;go_simp;(refine(SX.out _).mono ?_;rintro e w3 ⟨rfl,hk3⟩;have K3:=qh (show Kept w1 w3 from(Below.refl _ w1).drew.trans (hk3.mono (Nat.le_refl _)));have hS3:=SK.out _ K3.out;clear hk3)
    refine hK.out _ _ ?_ (fun hHeld=>?_)
    ·assumption
    clear hK K;try simp only[Act.put,tdy]
    refine oS 3 fun K hK=>?_;go_simp;(refine(SY.out _).mono ?_;rintro e w4 ⟨rfl,hk4⟩;have K4:=qh (K3.out.trans' hk4);have hS4:=SK.out _ K4.out;clear hk4)
    refine hK.out _ _ ?_ (fun hHeld=>?_)
    ·assumption
    clear hK K;try simp only[Act.put,tdy]
    refine eS 4 fun K hK=>?_;go_simp;refine hK.out _ _ ?_;clear hK K;try simp only[Act.put,tdy]
    refine eS 5 fun K hK=>?_;go_simp;refine hK.out _ _ ?_;clear hK K;try simp only[Act.put,tdy]
    refine dS ?_ _;clear c0 c1 c2 d0 d1 d2;obtain⟨⟨c0,c1,c2⟩,d0,d1,d2⟩:=SK.out _ K4.out
    go_wp2_with (first
     |(go_at_call 123;(with_reducible refine(TX.out _).mono ?_);rintro e w5 ⟨rfl,hk5⟩;have K5:=qh (K4.out.trans' hk5);obtain⟨⟨c0,c1,c2⟩,d0,d1,d2⟩:=SK.out _ K5.out;clear hk5)
     |(go_at_call 123;(with_reducible refine(TY.out _).mono ?_);rintro e w6 ⟨rfl,hk6⟩;have K6:=qh (K5.out.trans' hk6);clear hk6))
    go_ret
    exact⟨qaW (by rw[HA.out];omega),K1.out.trans' K6.out⟩
theorem qn8 {n p s:Nat} (h:qbt n p) (h0:n≠0):qbt (n*2 ^ s) (p+s):=by
 have hp:p≠0:=by rintro rfl;have:=h.1;simp at this;exact h0 this
 refine⟨by rw[Nat.pow_add];exact Nat.mul_lt_mul_of_pos_right h.1 (Nat.pow_pos (by omega)),fun _=>?_⟩;rw[show p+s-1=p-1+s by omega,Nat.pow_add];exact Nat.mul_le_mul_right _ (h.2 hp)
theorem qdD (r:Nat):Ieee.double.word false r=r:=rfl
theorem qgR {x y m n:Nat} {s t:Bool} {i j:Int} (hx:Ieee.double.read x=.number s m i) (hy:Ieee.double.read y=.number t n j):Ieee.double.mul x y=some (Ieee.double.nearest (s ^^ t) (m*n) (i+j)):=by
 unfold Ieee.Format.mul;rw[hx,hy];rfl
theorem qkM (M s:Nat):qfR (M*2 ^ s) s=M:=by
 unfold qfR;have h1:=Nat.pow_pos (n:=s) (show 0<2 by omega);rw[Nat.mul_div_cancel _ h1,Nat.mul_mod_left,if_neg (by omega)];rfl
theorem qe8 {M s:Nat} {Q:Int} (h53:M<9007199254740992) (hQ: -1074≤Q) (hM:4503599627370496≤M∨Q= -1074):Ieee.double.nearest false (M*2 ^ s) (Q-s)=qaJ M Q:=by
 by_cases h0:M=0
 ·subst h0
  rw[Nat.zero_mul];have hq:Q= -1074:=by omega
  subst hq;unfold Ieee.Format.nearest qaJ;rw[if_pos rfl,qdD];have e0:((-1074:Int)+1074).toNat=0:=by decide
  rw[e0];decide
 ·obtain⟨p,hp⟩: ∃p,qbt M p:=⟨M.log2+1,Nat.lt_log2_self,fun _=>by rw[Nat.add_sub_cancel];exact Nat.log2_self_le h0⟩
  have hp0:p≠0:=by rintro rfl;have:=hp.1;simp at this;exact h0 this
  have hp53:p≤53:=by
   have h1:=hp.2 hp0;have e53:(2:Nat) ^ 53=9007199254740992:=by decide
   have h2:2 ^ (p-1)<2 ^ 53:=by rw[e53];exact Nat.lt_of_le_of_lt h1 h53
   have:=(Nat.pow_lt_pow_iff_right (show 1<2 by omega)).1 h2;omega
  have hp52:4503599627370496≤M→p=53:=by
   intro h;have e52:(2:Nat) ^ 52=4503599627370496:=by decide
   have h1:2 ^ 52<2 ^ p:=by rw[e52];exact Nat.lt_of_le_of_lt h hp.1
   have:=(Nat.pow_lt_pow_iff_right (show 1<2 by omega)).1 h1;omega
  have hpos:M*2 ^ s≠0:=Nat.mul_ne_zero h0 (Nat.ne_of_gt (Nat.pow_pos (by omega)));rw[qff false (Q-s) hpos (qn8 hp h0)];have hl:qam (p+s) (Q-s)=Q:=by unfold qam;omega
  rw[hl]
  have hk:qa8 (M*2 ^ s) (Q-s) Q=M:=by
   unfold qa8;split
   ·rename_i h
    have hs:s=0:=by omega
    subst hs;rw[show(Q-((0:Nat):Int)-Q).toNat=0 by omega];simp
   ·rw [show(Q-(Q-(s:Int))).toNat=s by omega,qkM]
  rw[hk,qdD,qaJ]
theorem qg {M:Nat} {Q:Int} (h:(Q+1074).toNat * 4503599627370496+M<qaS):qaJ M Q=(Q+1074).toNat * 4503599627370496+M:=Nat.min_eq_left (by omega)
theorem qmO {m p:Nat} (h0:m≠0) (hp:qbt m p) (hp53:p≤53):Ieee.double.nearest false m 0=(p+1021)*4503599627370496+m*2 ^ (53-p):=by
 have hp0:p≠0:=by rintro rfl;have:=hp.1;simp at this;exact h0 this
 rw[qff false 0 h0 hp];have hl:qam p 0=(p:Int)-53:=by unfold qam;omega
 have hm:m*2 ^ (53-p)<9007199254740992:=by
  have h1:m*2 ^ (53-p)<2 ^ p*2 ^ (53-p):=Nat.mul_lt_mul_of_pos_right hp.1 (Nat.pow_pos (by omega));rw[←Nat.pow_add,show p+(53-p)=53 by omega]at h1;exact h1
 have hk:qa8 m 0 (qam p 0)=m*2 ^ (53-p):=by
  unfold qa8;rw[if_pos (by omega),hl,show(0-((p:Int)-53)).toNat=53-p by omega]
 rw[hk,hl,show((p:Int)-53+1074).toNat=p+1021 by omega];rw[qdD];apply Nat.min_eq_left;generalize m*2 ^ (53-p)=t at *;clear hl hk hp h0;unfold qaS;omega
theorem qhF :Ieee.double.nearest false 9007199254740992 0=1076*4503599627370496:=by decide +kernel
theorem qgM :Ieee.double.nearest false 0 0=0:=by decide
theorem qhI {x:Nat} (h1:4503599627370496≤x) (h2:x<qaS):Ieee.double.mul 4607182418800017408 x=some x:=by
 have hx:x<9223372036854775808:=by unfold qaS at h2;omega
 have hf:qb6 x=true:=by unfold qb6;rw[Nat.mod_eq_of_lt hx];exact decide_eq_true h2
 have r1:Ieee.double.read 4607182418800017408=.number false 4503599627370496 (-52):=by decide
 rw[qgR r1 (qcz (by omega) hf),decide_eq_false (show¬SG≤x by unfold SG;omega),Bool.false_xor];have e1: ¬x / 4503599627370496 % 2048=0:=by unfold qaS at h2;omega
 have hm:qat x=x % 4503599627370496+4503599627370496:=by unfold qat;rw[if_neg e1]
 have he:qbj x=(x / 4503599627370496 % 2048:Nat)-1075:=by unfold qbj;rw[if_neg e1]
 have:=qe8 (M:=qat x) (s:=52) (Q:=qbj x) (qeF x) (by omega) (.inl (by omega));rw[show(4503599627370496:Nat)*qat x=qat x*2 ^ 52 by rw[Nat.mul_comm]];rw[show(-52+qbj x)=qbj x-((52:Nat):Int) by omega];rw[this];congr 1
 rw[qg]<;>unfold qaS at * <;>omega
theorem qgC {m p:Nat} (h0:m≠0) (hp:qbt m p) (hp52:p≤52):Ieee.double.mul 4368491638549381120 (p*4503599627370496+m*2 ^ (53-p))=some m:=by
 have hp0:p≠0:=by rintro rfl;have:=hp.1;simp at this;exact h0 this
 have hm:m*2 ^ (53-p)<9007199254740992:=by
  have h1:m*2 ^ (53-p)<2 ^ p*2 ^ (53-p):=Nat.mul_lt_mul_of_pos_right hp.1 (Nat.pow_pos (by omega));rw[←Nat.pow_add,show p+(53-p)=53 by omega]at h1;exact h1
 have hm2:4503599627370496≤m*2 ^ (53-p):=by
  have h1:2 ^ (p-1)*2 ^ (53-p)≤m*2 ^ (53-p):=Nat.mul_le_mul_right _ (hp.2 hp0);rw[←Nat.pow_add,show p-1+(53-p)=52 by omega]at h1;exact h1
 obtain⟨x,hx⟩: ∃x,x=p*4503599627370496+m*2 ^ (53-p):=⟨_,rfl⟩
 rw[←hx];have hlt:x<qaS:=by unfold qaS;omega
 have hf:qb6 x=true:=by unfold qb6;rw[Nat.mod_eq_of_lt (by unfold qaS at hlt;omega)];exact decide_eq_true hlt
 have r1:Ieee.double.read 4368491638549381120=.number false 4503599627370496 (-105):=by decide
 rw[qgR r1 (qcz (by unfold qaS at hlt;omega) hf),decide_eq_false (show¬SG≤x by unfold SG;unfold qaS at hlt;omega),Bool.false_xor];have e1:x / 4503599627370496 % 2048=p+1:=by omega
 have hmn:qat x=m*2 ^ (53-p):=by unfold qat;rw[if_neg (by omega)];omega
 have he:qbj x=(p:Int)-1074:=by unfold qbj;rw[if_neg (by omega)];omega
 have e52:(2:Nat) ^ 52=4503599627370496:=by decide
 have h52:m<2 ^ 52:=Nat.lt_of_lt_of_le hp.1 (Nat.pow_le_pow_right (by omega) hp52);rw[e52]at h52;have:=qe8 (M:=m) (s:=53-p+52) (Q:= -1074) (by omega) (by omega) (.inr rfl)
 have e5:(4503599627370496:Nat)*(m*2 ^ (53-p))=m*2 ^ (53-p+52):=by
  rw[Nat.pow_add,e52,Nat.mul_comm,Nat.mul_assoc]
 rw[hmn,he,e5];have e6:(-105+((p:Int)-1074))= -1074-((53-p+52:Nat):Int):=by omega
 have e7:qaJ m (-1074)=m:=by
  have e0:((-1074:Int)+1074).toNat=0:=by decide
  unfold qaJ qaS;rw[e0,Nat.zero_mul,Nat.zero_add];exact Nat.min_eq_left (by omega)
 rw[e6,this,e7]
section
set_option maxHeartbeats 3200000
set_option maxRecDepth 100000
attribute [local go_sem] run_float_arith qaM qaN qaw qaf qad
theorem qmz (n:Nat):qaJ 9007199254740992 ((n:Int)-1074)=min ((n+2)*4503599627370496) qaS:=by
 unfold qaJ;rw[show((n:Int)-1074+1074).toNat=n by omega,show n*4503599627370496+9007199254740992=(n+2)*4503599627370496 by omega]
theorem qmn (m n:Nat):qaJ m ((n:Int)-1074)=min (n*4503599627370496+m) qaS:=by
 unfold qaJ;rw[show((n:Int)-1074+1074).toNat=n by omega]
theorem qfU {a b:Nat} (h:a=b):Ending.returned (.float .f64 a)=Ending.returned (.float .f64 b):=by rw[h]
theorem qe9 (m n:Nat) (w:World) (hm:m≤9007199254740992) (hn:n≤2045) (h:4503599627370496≤m∨n=0):
  Calls prog 163 #[.bool false,.int .u64 (m:Int),.int .i64 ((n:Int)-1074)] w fun en w'=>en=.returned (.float .f64 (qaJ m ((n:Int)-1074)))∧w'=w:=by
 by_cases h1:m=9007199254740992
 ·subst h1
  rw[qmz];have H:=qh h;clear h hm;by_cases h2:n=2045
  ·subst h2
   go_enter func163,ntmps163
   go_wp2_with fail
   go_ret
   exact⟨qfU (by decide),rfl⟩
  ·have h3:n≤2044:=by omega
   have e1:((n:Int)-1074+1+1075)=n+2:=by omega
   go_enter func163,ntmps163
   go_wp2_with fail
   go_ret
   refine⟨qfU ?_,rfl⟩;unfold qaS;omega
 ·rw [qmn]
  have h1b:((m:Int)==9007199254740992)=false:=by simpa using (show¬(m:Int)=9007199254740992 by omega)
  have h1c: ¬(m:Int)=9007199254740992:=by omega
  by_cases h4:4503599627370496≤m
  ·have i4:(4503599627370496:Int)≤m:=by omega
   have e1:((n:Int)-1074+1075)=n+1:=by omega
   clear h;go_enter func163,ntmps163
   go_wp2_with fail
   go_ret
   refine⟨qfU ?_,rfl⟩;unfold qaS;omega
  ·obtain rfl:n=0:=by omega
   have i4: ¬(4503599627370496:Int)≤m:=by omega
   clear h;go_enter func163,ntmps163
   go_wp2_with fail
   go_ret
   refine⟨qfU ?_,rfl⟩;unfold qaS;omega
theorem qhA (neg:Bool) (x:Nat) (w:World) (hx:x<9223372036854775808):
  Calls prog 130 #[.bool neg,.float .f64 x] w fun en w'=>en=.returned (.float .f64 (Ieee.double.word neg x))∧w'=w:=by
 cases neg with
 |false=>
  go_enter func130,ntmps130
  go_wp2_with fail
  go_ret
  exact⟨rfl,rfl⟩
 |true=>
  have HW:=qh (show Ieee.double.word true x=9223372036854775808+x from rfl);go_enter func130,ntmps130
  go_wp2_with fail
  go_ret
  exact⟨qfU (by rw[HW.out];omega),rfl⟩
theorem qiC {l:List Nat} {i:Nat}:qab 256 (l.drop i)≤qab 256 l:=by
 by_cases h:i≤l.length
 ·rw [qcO l i h]
  have:1*qab 256 (l.drop i)≤256 ^ i*qab 256 (l.drop i):=Nat.mul_le_mul_right _ (Nat.pow_pos (by omega));omega
 ·rw [List.drop_eq_nil_of_le (by omega)];simp[qab]
theorem drop_step {l:List Nat} {i x:Nat} (h:l[i]? =some x):qab 256 (l.drop i)=x+256*qab 256 (l.drop (i+1)):=by
 have hi:=(List.getElem?_eq_some_iff.1 h).1;rw[List.drop_eq_getElem_cons hi,qab];rw[List.getElem?_eq_getElem hi]at h;rw[Option.some.inj h]
theorem qps (W:World):qbm (W.alloc (.cells #[.int .i64 1] 3)) (.slice (some ⟨W.heap.size,0,none⟩) 1 1) 1 1:=
 ⟨some ⟨W.heap.size,0,none⟩,1,[1],rfl,by simp,by simp,Row.new W _ _ _ _ rfl,⟨by simp,rfl,by simp⟩⟩
end
end Go.Proofs.YtfdnledkcongaaaGreatDoor
