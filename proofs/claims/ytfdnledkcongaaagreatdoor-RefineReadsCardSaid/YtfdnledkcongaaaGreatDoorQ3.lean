/- Texts of one claim laid together: DoA, DoB, DoC, DoD, DoE, WidM, WidN, WidO, WidP. -/
import Derived.Test.YtfdnledkcongaaaGreatDoorQ2
import Derived.Lib.RabinKarpLaws
set_option linter.all false
namespace Go.Proofs.YtfdnledkcongaaaGreatDoor
open Go.RowKit Go.Proofs.Tryz
section
set_option maxHeartbeats 1600000
set_option maxRecDepth 100000
theorem qnx (A:Option Addr) (c:Nat) (l:List Nat) (w:World) (hl:l.length≤1000000000) (hc:l.length≤c) (hr:Row w A (qaV l)) (hok: ∀x∈l,x<256):
  Calls prog 161 #[.slice A l.length c] w fun e w'=> ∃m,e=.returned (.slice A m c)∧m≤l.length∧D8 (l.take m) (qab 256 l)∧w'=w:=by
 have HR:=qh hr;have HO:=qh hok;obtain⟨n,hn⟩: ∃n,n=l.length:=⟨_,rfl⟩
 rw[←hn]at hl hc⊢;have HN:=qh hn;clear hr hok hn;go_enter func161,ntmps161
 go_wp2_with fail
 go_loopg [3] n (fun gh v3 wr=>v3=.int .i64 (gh:Int)∧gh≤n∧qab 256 (l.take gh)=qab 256 l∧wr=w)
 case atStart=>exact⟨rfl,Nat.le_refl _,by rw[List.take_of_length_le (by have:=HN.out;omega)],rfl⟩
 case round=>
  obtain⟨rfl,hgn,hv,rfl⟩:=hrel;cases gk with
  |zero=>
   have HV:=qh hv;clear hv;go_wp2_with fail
   go_ret
   exact⟨0,qin (by omega) rfl,by omega,⟨by simp,by rw[←HV.out],by simp⟩,rfl⟩
  |succ gh=>
   obtain⟨x,hx⟩: ∃x,l[gh]? =some x:=⟨_,List.getElem?_eq_getElem (by have:=HN.out;omega)⟩
   obtain⟨b,off,rfl,hc0⟩:=qb8 HR.out hx;have HX:=qh hx;have HV:=qh hv;have hxb:=HO.out x (List.mem_of_getElem? hx);clear hv hx;by_cases h0:x=0
   ·subst h0
    go_wp2_with fail
    go_roundg gh
    case measure=>omega
    case rel=>exact⟨by go_num,by omega,by rw[←HV.out,qap l gh 0 HX.out];simp,rfl⟩
   ·have h1: ¬(x:Int)=0:=by omega
    go_wp2_with fail
    go_ret
    exact⟨gh+1,qin (by omega) rfl,by omega,⟨fun y hy=>HO.out y (List.mem_of_mem_take hy),HV.out,by
     rw[List.take_add_one,HX.out];simp;omega⟩,rfl⟩
theorem qfL (A:Option Addr) (c:Nat) (l:List Nat) (i:Nat) (w:World) (hi:i≤1000000000) (hr:Row w A (qaV l)):
  Calls prog 173 #[.slice A l.length c,.int .i64 (i:Int)] w fun e w'=>e=.returned (.int .i64 (atN l i:Nat))∧w'=w:=by
 by_cases h:i<l.length
 ·obtain⟨x,hx⟩: ∃x,l[i]? =some x:=⟨_,List.getElem?_eq_getElem h⟩
  obtain⟨b,off,rfl,hc0⟩:=qb8 hr hx;rw[qec hx];have h1:(i:Int)<l.length:=by omega
  clear hr hx;go_enter func173,ntmps173
  go_wp2_with fail
  go_ret
  exact⟨rfl,rfl⟩
 ·have h1: ¬(i:Int)<l.length:=by omega
  rw[qf5 (by omega)];clear hr;go_enter func173,ntmps173
  go_wp2_with fail
  go_ret
  exact⟨rfl,rfl⟩
theorem qdE :(prog.info? 3).map (fun i=>(i.zero,i.size,i.bytes))=some (some (.int .i64 0),1,8):=by kernel_rfl
def ofL (s:ByteArray):List Nat:=s.data.toList.reverse.map UInt8.toNat
theorem qfo (s:ByteArray):(ofL s).length=s.size:=by simp[ofL]
theorem qpo (s:ByteArray) (k:Nat) (h:k<s.size):(ofL s)[s.size-1-k]? =some (s[k]'h).toNat:=by
 obtain⟨⟨l⟩⟩:=s;have h':k<l.length:=h;show(l.reverse.map UInt8.toNat)[l.length-1-k]? =_;rw[List.getElem?_map,List.getElem?_reverse (by omega),show l.length-1-(l.length-1-k)=k by omega,List.getElem?_eq_getElem h'];rfl
theorem qlQ {s:ByteArray} (h:s.data.toList.head? ≠some 0):D8 (ofL s) (qf1 s):=qir h
theorem qlN (s:ByteArray) (w:World) (hs:s.size≤1000000):
  Calls prog 124 #[.string s] w fun e w'=> ∃v,e=.returned v∧Own w' w.heap.size 1 v s.size (qaV (ofL s))∧Kept w w':=by
 obtain⟨i0,hi,hi0,hi1,hi2⟩:=info_parts qdE;obtain⟨n,hn⟩: ∃n,n=s.size:=⟨_,rfl⟩
 have HN:=qh hn;clear hn;go_enter func124,ntmps124
 go_wp2_with fail
 go_loopg [3,4] n (fun gh v3 v4 wr=> ∃j:Nat,j+gh=n∧v4=.int .i64 ((gh:Int)-1)∧Own wr w.heap.size 1 v3 j (qaV ((ofL s).take j))∧Kept w wr)
 case atStart=>exact⟨0,by omega,by rw[HN.out],by simpa [qaV] using Own.nil w w.heap.size 1,Below.refl _ _⟩
 case round=>
  obtain⟨j,hj,rfl,hown,hk⟩:=hrel;have HO:=qh hown;have HK:=qh hk;have hnb:n≤1000000:=by rw[HN.out];exact hs
  clear hown hk;cases gk with
  |zero=>
   obtain rfl:j=n:=by omega
   go_wp2_with fail
   go_ret
   exact⟨_,rfl,by have:=HO.out;rw[List.take_of_length_le (by rw[qfo];have:=HN.out;omega)]at this;rw[←HN.out];exact this,HK.out⟩
  |succ gh=>
   have hlt:gh<s.size:=by have:=HN.out;omega
   have hltI:(gh:Int)<s.size:=by have:=HN.out;omega
   have hg0:((gh:Int)+1-1)=gh:=by omega
   have hx:=qpo s gh hlt;obtain⟨x,hxx⟩: ∃x,s[gh]'hlt=x:=⟨_,rfl⟩
   rw[hxx]at hx;have hxb:=x.toNat_lt;have hw:IntKind.i64.wrap (x.toNat:Int)=(x.toNat:Int):=IntWalk.i64_in _ (by omega);have HX:=qh hx;clear hx;go_wp2_with (at_builtin;refine qaq _ rfl _ _ 207 rfl w.heap.size 3 i0 (.int .i64 0) 1 8 underlying207 hi hi0 hi1 hi2 rfl (by decide) _ j _ rfl (HO.out.alloc _) (some ⟨wr.heap.size,0,none⟩) 1 1 [.int .i64 (x.toNat:Int)] rfl rfl (Row.qbP _ _ _ _ _ _ rfl rfl) (qcl _) ?_ ?_ ?_ ?_)
   ·unfold maxLen;omega
   ·omega
   ·have:=HK.out.size;simp;omega
   ·intro v3 w3 hown3 hg3 hat3
    have HO3:=qh hown3;have HK3:=qh (qbe (HK.out.alloc (HK.out.size) _) (HO.out.alloc _) (Nat.le_refl _) (by have:=HK.out.size;simp;omega) hg3);clear hown3 hg3 hat3 HO HK;go_wp2_with fail
    go_roundg gh
    case measure=>omega
    case rel=>exact⟨j+1,by omega,by go_num,by
     rw[List.take_add_one,show(ofL s)[j]? =some x.toNat by rw[←HX.out];congr 1;have:=HN.out;omega,Option.toList_some,qbZ];exact HO3.out,HK3.out⟩
end
section
set_option maxHeartbeats 1600000
set_option maxRecDepth 100000
theorem qnI (A A':Option Addr) (c c':Nat) (l l':List Nat) (x y:Nat) (w:World) (hl:l.length≤1000000000) (hl':l'.length≤1000000000) (hr:Row w A (qaV l)) (hr':Row w A' (qaV l')) (hd:D8 l x) (hd':D8 l' y):
  Calls prog 126 #[.slice A l.length c,.slice A' l'.length c'] w fun e w'=>e=.returned (.int .i64 (qbG x y))∧∃m,w'=w.drewN m:=by
 have HR:=qh hr;have HR':=qh hr';have HD:=qh hd;have HD':=qh hd';clear hr hr' hd hd';rcases Nat.lt_trichotomy l.length l'.length with h|h|h
 ·have HL:=qh (HD.out.qdo HD'.out (by omega) h)
  have h1: ¬(l.length:Int)=l'.length:=by omega
  have h2:(l.length:Int)<l'.length:=by omega
  go_enter func126,ntmps126
  go_wp2_with fail
  go_ret
  exact⟨qaW (qcw HL.out).symm,0,rfl⟩
 ·obtain⟨n,hn⟩: ∃n,n=l.length:=⟨_,rfl⟩
  rw[←h,←hn];have HN:=qh (And.intro hn (hn.trans h));rw[←hn]at hl;clear h hl' hn;go_enter func126,ntmps126
  go_wp2_with fail
  go_loopg [5] n (fun gh v5 wr=>v5=.int .i64 ((gh:Int)-1)∧gh≤n∧l.drop gh=l'.drop gh∧∃m,wr=w.drewN m)
  case atStart=>exact⟨by go_num,Nat.le_refl _,by rw[List.drop_eq_nil_of_le (by have:=HN.out.1;omega),List.drop_eq_nil_of_le (by have:=HN.out.2;omega)],0,rfl⟩
  case round=>
   obtain⟨rfl,hgn,hv,m,rfl⟩:=hrel;cases gk with
   |zero=>
    have HV:=qh (show x=y by rw[←HD.out.val,←HD'.out.val];simpa using congrArg (qab 256) hv);clear hv;go_wp2_with fail
    go_ret
    exact⟨qaW (by rw[HV.out,qei]),m,rfl⟩
   |succ gh=>
    obtain⟨a,ha⟩: ∃x,l[gh]? =some x:=⟨_,List.getElem?_eq_getElem (by have:=HN.out.1;omega)⟩
    obtain⟨b,hb⟩: ∃x,l'[gh]? =some x:=⟨_,List.getElem?_eq_getElem (by have:=HN.out.2;omega)⟩
    obtain⟨ba,oa,rfl,ca⟩:=qb8 HR.out ha;obtain⟨bb,ob,rfl,cb⟩:=qb8 HR'.out hb;have HA:=qh (And.intro ha hb);have HV:=qh hv;have hab:=HD.out.ok a (List.mem_of_getElem? ha);have hbb:=HD'.out.ok b (List.mem_of_getElem? hb);have hg1:((gh:Int)+1-1)=gh:=by omega
    have hg2:(0:Int)≤gh:=by omega
    have hg3:(gh:Int)<n:=by omega
    clear hv ha hb;by_cases h0:a=b
    ·subst h0
     go_wp2_with fail
     go_quiet (fail)
     go_wp2_with fail
     go_roundg gh
     case measure=>omega
     case rel=>exact⟨by go_num,by omega,by rw[List.drop_eq_getElem_cons (by have:=HN.out.1;omega),List.drop_eq_getElem_cons (show gh<l'.length by have:=HN.out.2;omega),HV.out];congr 1;have e1:=HA.out.1;have e2:=HA.out.2;rw[List.getElem?_eq_getElem (by have:=HN.out.1;omega)]at e1;rw[List.getElem?_eq_getElem (by have:=HN.out.2;omega)]at e2;rw[Option.some.inj e1,Option.some.inj e2],_,rfl⟩
    ·have h1: ¬(a:Int)=b:=by omega
     by_cases h2:a<b
     ·have h3:(a:Int)<b:=by omega
      have HL:=qh (show x<y by rw[←HD.out.val,←HD'.out.val];exact qcm HD.out.ok gh a b (HN.out.1.symm.trans HN.out.2) HA.out.1 HA.out.2 HV.out h2);go_wp2_with fail
      go_quiet (fail)
      go_wp2_with fail
      go_quiet (fail)
      go_wp2_with fail
      go_ret
      exact⟨qaW (qcw HL.out).symm,_,by rw[World.drewN_drewN,World.drewN_drewN]⟩
     ·have h3: ¬(a:Int)<b:=by omega
      have HL:=qh (show y<x by rw[←HD.out.val,←HD'.out.val];exact qcm HD'.out.ok gh b a (HN.out.2.symm.trans HN.out.1) HA.out.2 HA.out.1 HV.out.symm (by omega));go_wp2_with fail
      go_quiet (fail)
      go_wp2_with fail
      go_quiet (fail)
      go_wp2_with fail
      go_ret
      exact⟨qaW (qdd HL.out).symm,_,by rw[World.drewN_drewN,World.drewN_drewN]⟩
 ·have HL:=qh (HD'.out.qdo HD.out (by omega) h)
  have h1: ¬(l.length:Int)=l'.length:=by omega
  have h2: ¬(l.length:Int)<l'.length:=by omega
  go_enter func126,ntmps126
  go_wp2_with fail
  go_ret
  exact⟨qaW (qdd HL.out).symm,0,rfl⟩
theorem qmS {x k:Nat} (h:qbt x (k+1)):x≠0∧qbt (x / 2) k:=by
 have h2:=h.2 (by omega);rw[Nat.add_sub_cancel]at h2;have hp:0<2 ^ k:=Nat.pow_pos (by omega);refine⟨by omega,by have:=h.1;rw[Nat.pow_succ]at this;omega,fun hk=>?_⟩;obtain⟨j,rfl⟩: ∃j,k=j+1:=⟨k-1,by omega⟩
 rw[Nat.pow_succ]at h2;rw[Nat.add_sub_cancel];omega
theorem qnm (A:Option Addr) (c:Nat) (l:List Nat) (x:Nat) (w:World) (hl:l.length≤100000000) (hr:Row w A (qaV l)) (hd:D8 l x):
  Calls prog 160 #[.slice A l.length c] w fun e w'=> ∃k,e=.returned (.int .i64 (k:Nat))∧qbt x k∧k≤8*l.length∧w'=w:=by
 by_cases h0:l.length=0
 ·have h1:l=[]:=List.eq_nil_of_length_eq_zero h0
  subst h1;have h2:=(hd.qci (by omega)).1 rfl;subst h2;clear hr hd;go_enter func160,ntmps160
  go_wp2_with fail
  go_ret
  exact⟨0,rfl,qeX,by omega,rfl⟩
 ·obtain⟨m,t,rfl⟩: ∃m t,l=m++[t]:=⟨l.dropLast,l.getLast (by intro h;simp[h]at h0),(List.dropLast_concat_getLast (by intro h;simp[h]at h0)).symm⟩
  have ht0:t≠0:=fun e=>hd.top (by simp[e]);have htb:t<256:=hd.ok t (by simp);obtain⟨b,off,rfl,c0⟩:=qb8 hr (k:=m.length) (x:=t) (by simp);obtain⟨n,hn⟩: ∃n,n=m.length:=⟨_,rfl⟩
  have hlen:(m++[t]).length=n+1:=by simp[hn]
  rw[hlen]at hl⊢;obtain⟨K,hK⟩: ∃K,qbt t K:=⟨_,qgk t (by omega)⟩
  have hK8:K≤8:=by
   rcases Nat.lt_or_ge 8 K with h|h
   ·have h1:=hK.2 (by omega)
    have h2:2 ^ 8≤2 ^ (K-1):=Nat.pow_le_pow_right (by omega) (by omega);omega
   ·exact h
  have HF:=qh (show qbt x (8*n+K) by
   rw[←hd.val,qby,show(256:Nat)=2 ^ 8 from rfl,←Nat.pow_mul,←hn];refine qiU ?_ ht0 hK;have:=qcn (B:=256) m (fun z hz=>hd.ok z (by simp[hz]));rw[show(256:Nat)=2 ^ 8 from rfl,←Nat.pow_mul,←hn]at this;exact this)
  rw[←hn]at c0;have HKK:=qh hK;clear hr hd hlen hn h0 ht0 hK;go_enter func160,ntmps160
  go_wp2_with fail
  go_loopg [3,4] K (fun gh v3 v4 wr=> ∃d y:Nat,d+gh=K∧v3=.int .i64 ((8*n+d:Nat):Int)∧v4=.int .i64 (y:Int)∧y<256∧qbt y gh∧wr=w)
  case atStart=>exact⟨0,t,by omega,by go_num,rfl,htb,HKK.out,rfl⟩
  case round=>
   obtain⟨d,y,hdg,rfl,rfl,hyb,hy,rfl⟩:=hrel;cases gk with
   |zero=>
    have hy0:y=0:=by have:=hy.1;simpa using this
    subst hy0;obtain rfl:d=K:=by omega
    clear hy;go_wp2_with fail
    go_ret
    exact⟨8*n+d,rfl,HF.out,by omega,rfl⟩
   |succ gh=>
    obtain⟨hy0,hy1⟩:=qmS hy;have HY:=qh hy1;have hyp:(0:Int)<y:=by omega
    clear hy hy1;go_wp2_with fail
    go_roundg gh
    case measure=>omega
    case rel=>exact⟨d+1,y / 2,by omega,by go_num,by go_num,by omega,HY.out,rfl⟩
theorem ql1 {l:List Nat} {x n d:Nat} (h:D8 l x) (hd:l[n / 8]? =some d):d / 2 ^ (n % 8) % 2=x / 2 ^ n % 2:=by
 have h1:=qeC l (by omega) h.ok (n / 8) d hd;rw[h.val]at h1;rw[←h1];have e:256=2 ^ (n % 8)*2 ^ (8-n % 8):=by rw[←Nat.pow_add,show n % 8+(8-n % 8)=8 by omega]
 have e2:2 ^ (8-n % 8)=2*2 ^ (7-n % 8):=by rw[show 8-n % 8=7-n % 8+1 by omega,Nat.pow_succ,Nat.mul_comm]
 have h2:x / 256 ^ (n / 8) % 256 / 2 ^ (n % 8)=x / 256 ^ (n / 8) / 2 ^ (n % 8) % 2 ^ (8-n % 8):=by
  generalize x / 256 ^ (n / 8)=y;conv=>lhs;rw[e]
  exact Nat.mod_mul_right_div_self ..
 rw[h2,e2,Nat.mod_mul_right_mod,Nat.div_div_eq_div_mul,qj,←Nat.pow_add,show 8*(n / 8)+n % 8=n by omega]
theorem ql2 {x t n:Nat} (h:qcq x t) (hn:n<t):x / 2 ^ n % 2=0:=by
 obtain⟨q,hq⟩: ∃q,x=q*2 ^ t:=⟨_,h.eq⟩
 rw[hq,show t=n+1+(t-n-1) by omega,Nat.pow_add,Nat.pow_succ,show q*(2 ^ n*2*2 ^ (t-n-1))=2 ^ n*(2*(q*2 ^ (t-n-1))) by ac_rfl,Nat.mul_div_cancel_left _ (Nat.pow_pos (by omega))];omega
theorem qor (A:Option Addr) (c:Nat) (l:List Nat) (x t:Nat) (w:World) (hl:l.length≤100000000) (hr:Row w A (qaV l)) (hd:D8 l x) (ht:qcq x t):
  Calls prog 172 #[.slice A l.length c] w fun e w'=>e=.returned (.int .i64 (t:Int))∧w'=w:=by
 have HR:=qh hr;have HD:=qh hd;have HT:=qh ht
 have hb:t<8*l.length:=by
  have h1:=hd.lt;rw[qj]at h1;exact ht.lt h1
 obtain⟨n,hn⟩: ∃n,n=l.length:=⟨_,rfl⟩
 rw[←hn]at hl hb⊢;have HN:=qh hn;clear hr hd ht hn;go_enter func172,ntmps172
 go_wp2_with fail
 go_loopg [3] t (fun gh v3 wr=> ∃j:Nat,j+gh=t∧v3=.int .i64 (j:Int)∧wr=w)
 case atStart=>exact⟨0,by omega,rfl,rfl⟩
 case round=>
  obtain⟨j,hj,rfl,rfl⟩:=hrel;have hq:j / 8<n:=by omega
  have hqI:(j:Int) / 8<n:=by omega
  have hq0:(0:Int)≤(j:Int) / 8:=by omega
  have hq2:((j:Int) / 8).toNat=j / 8:=by omega
  have hr0:(0:Int)≤(j:Int) % 8:=by omega
  have hr1:(j:Int) % 8≤64:=by omega
  have hr2:((j:Int) % 8).toNat=j % 8:=by omega
  obtain⟨d,hd⟩: ∃x,l[j / 8]? =some x:=⟨_,List.getElem?_eq_getElem (by have:=HN.out;omega)⟩
  obtain⟨b,off,rfl,c0⟩:=qb8 HR.out hd;have hdb:=HD.out.ok d (List.mem_of_getElem? hd);have hbit:=ql1 HD.out hd;have HB:=qh hbit;obtain⟨y,hy⟩: ∃y,y=d / 2 ^ (j % 8):=⟨_,rfl⟩
  have hyI:(d:Int) / 2 ^ (j % 8)=(y:Int):=by rw[hy];simp
  have hyb:y<256:=by rw[hy];exact Nat.lt_of_le_of_lt (Nat.div_le_self _ _) hdb
  have hand:bits BinOp.and IntKind.i64 (y:Int) 1=((y % 2:Nat):Int):=and_one y (by omega);rw[←hy]at hbit;clear hd hy;cases gk with
  |zero=>
   obtain rfl:j=t:=by omega
   have h1:y % 2=1:=by rw[hbit];exact HT.out.2
   rw[h1]at hand;clear hbit;go_wp2_with fail
   go_ret
   exact⟨rfl,rfl⟩
  |succ gh=>
   have h1:y % 2=0:=by rw[hbit];exact ql2 HT.out (by omega)
   rw[h1]at hand;clear hbit;go_wp2_with fail
   go_roundg gh
   case measure=>omega
   case rel=>exact⟨j+1,by omega,by go_num,rfl⟩
end
theorem qjP (n:Nat) (hn:n≤1000000000) (W:World):(Instr.makeSlice 207 (.int .i64 (n:Int)) (.int .i64 (n:Int))).run prog W=.ok (.slice (some ⟨W.heap.size,0,none⟩) n n) (W.alloc (.cells (qaV (List.replicate n 0)).toArray 3)):=by
 obtain⟨i,hi,hi0,hi1,hi2⟩:=info_parts qdE;have h9:=run_make (P:=prog) W 207 3 i (.int .i64 0) underlying207 hi hi0 .i64 .i64 (n:Int) (n:Int) (by omega) (Int.le_refl _) (by rw[hi2];omega) (by omega);rw[hi1,Int.toNat_natCast,Nat.mul_one,show(Value.int .i64 0).cells=#[.int .i64 0]from rfl,qhn]at h9;rw[h9];simp[qaV]
theorem qlR (W:World) (n:Nat) (hn:n≤1000000000):Own (W.alloc (.cells (qaV (List.replicate n 0)).toArray 3)) W.heap.size 1 (.slice (some ⟨W.heap.size,0,none⟩) n n) n (qaV (List.replicate n 0)):=
 Own.new W _ _ (0,0) n 1 _ W.heap.size W.heap.size rfl (Nat.le_refl _) (by unfold maxLen;omega) (by simp[qaV]) rfl (.inr rfl)
theorem qeT {W:World} {base n:Nat} {v:Value} {L:List Nat} {m k:Nat} (h:Own W base 1 v n (qaV L)) (hL:L.length=n) (hn:n≤1000000000) (hk:n≤k) (hok: ∀x∈L,x<256) (hv:qab 256 L=m):
  Calls prog 161 #[v] W fun e w'=> ∃v,e=.returned v∧qbm w' v m k∧w'=W:=by
 subst hL;obtain⟨A,c,rfl,hnc,hcm,hrow,-,-⟩:=h.form;refine(qnx A c L W hn hnc hrow hok).mono ?_;rintro e w' ⟨j,rfl,hj,hd,rfl⟩;refine⟨_,rfl,⟨A,c,L.take j,?_,?_,?_,?_,?_⟩,rfl⟩
 ·rw [List.length_take,Nat.min_eq_left hj]
 ·rw [List.length_take];omega
 ·rw [List.length_take];omega
 ·rw [qnb];exact hrow.take j
 ·rw [←hv];exact hd
theorem qp8 {a r:Nat} (ha:a<256) (hr:r<8):a*2 ^ r≤32640∧∀m,m<2 ^ r→m+a*2 ^ r<256*2 ^ r∧m<128:=by
 have h1:2 ^ r≤2 ^ 7:=Nat.pow_le_pow_right (by omega) (by omega);have h2:a*2 ^ r≤255*2 ^ r:=Nat.mul_le_mul_right _ (by omega);refine⟨by omega,fun m hm=>⟨by omega,by omega⟩⟩
set_option maxRecDepth 100000 in
set_option maxHeartbeats 1600000 in
theorem qmW (A:Option Addr) (c:Nat) (l:List Nat) (x s:Nat) (w:World) (hl:l.length≤1000000) (hs:s≤100000000) (hr:Row w A (qaV l)) (hd:D8 l x):
  Calls prog 125 #[.slice A l.length c,.int .i64 (s:Int)] w fun e w'=> ∃v,e=.returned v∧qbm w' v (x*2 ^ s) (l.length+s / 8+1)∧Kept w w':=by
 obtain⟨i0,hi,hi0,hi1,hi2⟩:=info_parts qdE;have HR:=qh hr;have HD:=qh hd;clear hr hd;obtain⟨n,hn⟩: ∃n,n=l.length:=⟨_,rfl⟩
 obtain⟨q,hq⟩: ∃q,q=s / 8:=⟨_,rfl⟩
 obtain⟨r,hr⟩: ∃r,r=s % 8:=⟨_,rfl⟩
 rw[←hn]at hl;rw[←hn,←hq];have HN:=qh hn;have HQ:=qh (And.intro hq hr);have eq1:(s:Int) / 8=q:=by omega
 have eq2:(s:Int) % 8=r:=by omega
 have hr9:r<8:=by omega
 have hr8:(r:Int)≤64:=by omega
 have hq9:q≤100000000:=by omega
 clear hn hq hr;by_cases h0:n=0
 ·subst h0
  go_enter func125,ntmps125
  go_wp2_with fail
  go_ret
  refine⟨_,rfl,?_,Below.refl _ _⟩;rw[(HD.out.qci (by omega)).1 (List.eq_nil_of_length_eq_zero HN.out.symm),Nat.zero_mul];exact qbm.nil _ _
 ·have h1: ¬(n:Int)=0:=by omega
  have h2:((n:Int)==0)=false:=by simpa using h1
  have mk:=qjP q (by omega);go_enter func125,ntmps125
  go_upto_region 4 with fail
  have HO:=qh (qlR w q (by omega));have HK:=qh (show Kept w (w.alloc (.cells (qaV (List.replicate q 0)).toArray 3))from(Below.refl _ _).alloc (Nat.le_refl _) _);generalize(w.alloc (.cells (qaV (List.replicate q 0)).toArray 3))=W1 at *;generalize(Value.slice (some ⟨w.heap.size,0,none⟩) q q)=v0 at *;clear mk;go_wp2_with fail
  go_loopg [5,6,7] n (fun gh v5 v6 v7 wr=> ∃(i m:Nat) (D:List Nat),i+gh=n∧v7=.int .i64 i∧v6=.int .i64 m∧D.length=i∧(∀z∈D,z<256)∧m<2 ^ r∧qab 256 D+m*256 ^ D.length=qab 256 (l.take i)*2 ^ r∧
   Own wr w.heap.size 1 v5 (q+i) (qaV (List.replicate q 0++D))∧Kept w wr)
  case atStart=>exact⟨0,0,[],by omega,rfl,rfl,rfl,by simp,Nat.pow_pos (by omega),by simp[qab],by simpa using HO.out,HK.out⟩
  case round=>
   obtain⟨i,m,D,hig,rfl,rfl,hDl,hDo,hm,hv,ho,hk⟩:=hrel;have HOW:=qh ho;have HKR:=qh hk;have HV:=qh (And.intro hDl (And.intro hDo (And.intro hm hv)));have hm8:m<128:=by have:2 ^ r≤2 ^ 7:=Nat.pow_le_pow_right (by omega) (by omega);omega
   clear hv ho hDo hDl hm;cases gk with
   |zero=>
    obtain rfl:i=n:=by omega
    clear hk;go_wp2_with (at_builtin;refine qaq _ rfl _ _ 207 rfl w.heap.size 3 i0 (.int .i64 0) 1 8 underlying207 hi hi0 hi1 hi2 rfl (by decide) _ (q+i) _ rfl (HOW.out.alloc _) (some ⟨wr.heap.size,0,none⟩) 1 1 [.int .i64 (m:Int)] rfl rfl (Row.qbP _ _ _ _ _ _ rfl rfl) (qcl _) ?_ ?_ ?_ ?_)
    ·unfold maxLen;omega
    ·omega
    ·have:=HKR.out.size;simp;omega
    ·intro v3 w3 hown3 hg3 hat3
     have HO3:=qh hown3;have HK3:=qh (qbe (HKR.out.alloc (HKR.out.size) _) (HOW.out.alloc _) (Nat.le_refl _) (by have:=HKR.out.size;simp;omega) hg3);clear hown3 hg3 hat3;go_wp2_with (go_at_call 161;refine(qeT (base:=w.heap.size) (n:=q+i+1) (m:=x*2 ^ s) (k:=i+q+1) (L:=(List.replicate q 0++D)++[m]) (by rw[qbZ];exact HO3.out) (by simp[HV.out.1];omega) (by omega) (by omega) (qdT (fun z hz=>(List.mem_append.1 hz).elim (fun hz=>by rw[(List.mem_replicate.1 hz).2];omega) (HV.out.2.1 z)) (by omega)) ?_).mono ?_;rotate_left;rintro e w9 ⟨v9,rfl,hd9,rfl⟩)
     ·go_ret
      exact⟨v9,rfl,hd9,HK3.out⟩
     ·rw [List.append_assoc,qcU,qcJ,qby,Nat.zero_add,List.length_replicate,Nat.mul_comm (256 ^ D.length),HV.out.2.2.2,List.take_of_length_le (by have:=HN.out;omega),HD.out.val]
      rw[show(256:Nat)=2 ^ 8 from rfl,←Nat.pow_mul,Nat.mul_comm,Nat.mul_assoc,←Nat.pow_add];congr 2
      have:=HQ.out;omega
   |succ gh=>
    obtain⟨a,ha⟩: ∃x,l[i]? =some x:=⟨_,List.getElem?_eq_getElem (by have:=HN.out;omega)⟩
    have hab:=HD.out.ok a (List.mem_of_getElem? ha);obtain⟨ba,oa,rfl,ca⟩:=qb8 (HR.out.kept hk) ha;have HAA:=qh ha;have hin:(i:Int)<n:=by omega
    obtain⟨ht,ht2⟩:=qp8 hab hr9;have ht3:=ht2 m HV.out.2.2.1;obtain⟨t,htt⟩: ∃t,t=a*2 ^ r:=⟨_,rfl⟩
    have htI:(a:Int)*2 ^ r=(t:Int):=by rw[htt];simp
    have htw:IntKind.i64.wrap (t:Int)=(t:Int):=IntWalk.i64_in _ (by omega);rw[←htt]at ht ht3;have HT:=qh (And.intro htt ht3);clear hk ha ht2 ht3 htt;go_wp2_with (at_builtin;refine qaq _ rfl _ _ 207 rfl w.heap.size 3 i0 (.int .i64 0) 1 8 underlying207 hi hi0 hi1 hi2 rfl (by decide) _ (q+i) _ rfl (HOW.out.alloc _) (some ⟨wr.heap.size,0,none⟩) 1 1 [.int .i64 (((m:Int)+t) % 256)] rfl rfl (Row.qbP _ _ _ _ _ _ rfl rfl) (qcl _) ?_ ?_ ?_ ?_)
    ·unfold maxLen;omega
    ·omega
    ·have:=HKR.out.size;simp;omega
    ·intro v3 w3 hown3 hg3 hat3
     have HO3:=qh hown3;have HK3:=qh (qbe (HKR.out.alloc (HKR.out.size) _) (HOW.out.alloc _) (Nat.le_refl _) (by have:=HKR.out.size;simp;omega) hg3);clear hown3 hg3 hat3;go_wp2_with fail
     go_roundg gh
     case measure=>omega
     case rel=>
      have e1:((m:Int)+t) % 256=(((m+a*2 ^ r) % 256:Nat):Int):=by rw[←HT.out.1];omega
      have hO:=HO3.out;rw[e1,←qbZ,List.append_assoc]at hO;exact⟨i+1,(m+a*2 ^ r) / 256,D++[(m+a*2 ^ r) % 256],by omega,by go_num,by rw[←HT.out.1];go_num,by simp[HV.out.1],qdT HV.out.2.1 (Nat.mod_lt _ (by omega)),by rw[←HT.out.1,Nat.div_lt_iff_lt_mul (by omega),Nat.mul_comm (2 ^ r)];exact HT.out.2.1,qkb HV.out.1 HV.out.2.2.2 HAA.out,by rw[←Nat.add_assoc];exact hO,HK3.out⟩
section
set_option maxHeartbeats 1600000
set_option maxRecDepth 100000
theorem qmc (A A':Option Addr) (c c':Nat) (l l':List Nat) (x y:Nat) (w:World) (hl:l.length≤1000000) (hl':l'.length≤1000000) (hr:Row w A (qaV l)) (hr':Row w A' (qaV l')) (hd:D8 l x) (hd':D8 l' y):
  Calls prog 136 #[.slice A l.length c,.slice A' l'.length c'] w fun e w'=> ∃v,e=.returned v∧qbm w' v (x+y) (max l.length l'.length+1)∧Kept w w':=by
 obtain⟨i0,hi,hi0,hi1,hi2⟩:=info_parts qdE;have HR:=qh hr;have HR':=qh hr';have HD:=qh hd;have HD':=qh hd';clear hr hr' hd hd';obtain⟨n,hn⟩: ∃n,n=l.length:=⟨_,rfl⟩
 obtain⟨k,hk⟩: ∃k,k=l'.length:=⟨_,rfl⟩
 have AT1:Hid (∀W (i:Nat),i≤1000000→Kept w W→Calls prog 173 #[.slice A n c,.int .i64 (i:Int)] W fun e w'=>e=.returned (.int .i64 (atN l i:Nat))∧W=w'):=fun W i hi hkk=>by
  rw[hn];exact(qfL A c l i W (by omega) (HR.out.kept hkk)).mono fun _ _ h=>⟨h.1,h.2.symm⟩
 have AT2:Hid (∀W (i:Nat),i≤1000000→Kept w W→Calls prog 173 #[.slice A' k c',.int .i64 (i:Int)] W fun e w'=>e=.returned (.int .i64 (atN l' i:Nat))∧W=w'):=fun W i hi hkk=>by
  rw[hk];exact(qfL A' c' l' i W (by omega) (HR'.out.kept hkk)).mono fun _ _ h=>⟨h.1,h.2.symm⟩
 rw[←hn]at hl;rw[←hk]at hl';rw[←hn,←hk];have HN:=qh (And.intro hn hk);clear hn hk;obtain⟨N,hN⟩: ∃N,N=max n k:=⟨_,rfl⟩
 rw[←hN];have hN1:n≤N:=by omega
 have hN2:k≤N:=by omega
 have hN3:N≤1000000:=by omega
 have HNN:=qh hN;clear hN;go_enter func136,ntmps136
 go_wp2_with fail
 go_loopg [5,6,7] N (fun gh v5 v6 v7 wr=> ∃(i m:Nat) (D:List Nat),i+gh=N∧v7=.int .i64 i∧v6=.int .i64 m∧D.length=i∧(∀z∈D,z<256)∧m≤1∧qab 256 D+m*256 ^ D.length=qab 256 (l.take i)+qab 256 (l'.take i)∧
  Own wr w.heap.size 1 v5 i (qaV D)∧Kept w wr)
 case atStart=>exact⟨0,0,[],by omega,rfl,rfl,rfl,by simp,by omega,by simp[qab],by simpa [qaV] using Own.nil w w.heap.size 1,Below.refl _ _⟩
 case round=>
  obtain⟨i,m,D,hig,rfl,rfl,hDl,hDo,hm,hv,ho,hk⟩:=hrel;have HOW:=qh ho;have HKR:=qh hk;have HV:=qh (And.intro hDl (And.intro hDo hv));clear hv ho hDo hDl hk;cases gk with
  |zero=>
   obtain rfl:i=N:=by omega
   have h1: ¬(i:Int)<n:=by omega
   have h2: ¬(i:Int)<k:=by omega
   go_wp2_with (at_builtin;refine qaq _ rfl _ _ 207 rfl w.heap.size 3 i0 (.int .i64 0) 1 8 underlying207 hi hi0 hi1 hi2 rfl (by decide) _ (i) _ rfl (HOW.out.alloc _) (some ⟨wr.heap.size,0,none⟩) 1 1 [.int .i64 ((m:Int))] rfl rfl (Row.qbP _ _ _ _ _ _ rfl rfl) (qcl _) ?_ ?_ ?_ ?_)
   ·unfold maxLen;omega
   ·omega
   ·have:=HKR.out.size;simp;omega
   ·intro v3 w3 hown3 hg3 hat3
    have HO3:=qh hown3;have HK3:=qh (qbe (HKR.out.alloc (HKR.out.size) _) (HOW.out.alloc _) (Nat.le_refl _) (by have:=HKR.out.size;simp;omega) hg3);clear hown3 hg3 hat3;go_wp2_with (go_at_call 161;refine(qeT (base:=w.heap.size) (n:=i+1) (m:=x+y) (k:=i+1) (L:=D++[m]) (by rw[qbZ];exact HO3.out) (by simp[HV.out.1]) (by omega) (by omega) (qdT HV.out.2.1 (by omega)) ?_).mono ?_;rotate_left;rintro e w9 ⟨v9,rfl,hd9,rfl⟩)
    ·go_ret
     exact⟨v9,rfl,hd9,HK3.out⟩
    ·rw [qby,Nat.mul_comm (256 ^ D.length),HV.out.2.2,List.take_of_length_le (by have:=HN.out;omega),List.take_of_length_le (by have:=HN.out;omega),HD.out.val,HD'.out.val]
  |succ gh=>
   have ha:=qgX HD.out.ok i;have hb:=qgX HD'.out.ok i;obtain⟨a,haa⟩: ∃a,a=atN l i:=⟨_,rfl⟩
   obtain⟨b,hbb⟩: ∃b,b=atN l' i:=⟨_,rfl⟩
   have C1:Hid (∀W,Kept w W→Calls prog 173 #[.slice A n c,.int .i64 (i:Int)] W fun e w'=>e=.returned (.int .i64 (a:Int))∧W=w'):=fun W hk=>by rw[haa];exact AT1.out W i (by omega) hk
   have C2:Hid (∀W,Kept w W→Calls prog 173 #[.slice A' k c',.int .i64 (i:Int)] W fun e w'=>e=.returned (.int .i64 (b:Int))∧W=w'):=fun W hk=>by rw[hbb];exact AT2.out W i (by omega) hk
   rw[←haa]at ha;rw[←hbb]at hb;have HAB:=qh (And.intro haa hbb);clear haa hbb;by_cases hin:i<n
   ·have hin2:(i:Int)<n:=by omega
    go_wp2_with (first
     |(go_at_call 173;(with_reducible refine(C1.out _ HKR.out).mono ?_);rintro e w2 ⟨rfl,rfl⟩)
     |(go_at_call 173;(with_reducible refine(C2.out _ HKR.out).mono ?_);rintro e w2 ⟨rfl,rfl⟩)
     |(at_builtin;refine qaq _ rfl _ _ 207 rfl w.heap.size 3 i0 (.int .i64 0) 1 8 underlying207 hi hi0 hi1 hi2 rfl (by decide) _ (i) _ rfl (HOW.out.alloc _) (some ⟨wr.heap.size,0,none⟩) 1 1 [.int .i64 (((m:Int)+a+b) % 256)] rfl rfl (Row.qbP _ _ _ _ _ _ rfl rfl) (qcl _) ?_ ?_ ?_ ?_))
    ·unfold maxLen;omega
    ·omega
    ·have:=HKR.out.size;simp;omega
    ·intro v3 w3 hown3 hg3 hat3
     have HO3:=qh hown3;have HK3:=qh (qbe (HKR.out.alloc (HKR.out.size) _) (HOW.out.alloc _) (Nat.le_refl _) (by have:=HKR.out.size;simp;omega) hg3);clear hown3 hg3 hat3;go_wp2_with fail
     go_roundg gh
     case measure=>omega
     case rel=>
      have e1:((m:Int)+a+b) % 256=(((m+(a+b)) % 256:Nat):Int):=by omega
      have hO:=HO3.out;rw[e1,←qbZ]at hO;have hs:=qgO HV.out.1 HV.out.2.2;rw[←HAB.out.1,←HAB.out.2]at hs;exact⟨i+1,(m+(a+b)) / 256,D++[(m+(a+b)) % 256],by omega,by go_num,by first|rfl|(congr 1;omega),by simp[HV.out.1],qdT HV.out.2.1 (Nat.mod_lt _ (by omega)),by omega,hs,hO,HK3.out⟩
   ·have hin2: ¬(i:Int)<n:=by omega
    have hik2:(i:Int)<k:=by have:=HNN.out;omega
    go_wp2_with (first
     |(go_at_call 173;(with_reducible refine(C1.out _ HKR.out).mono ?_);rintro e w2 ⟨rfl,rfl⟩)
     |(go_at_call 173;(with_reducible refine(C2.out _ HKR.out).mono ?_);rintro e w2 ⟨rfl,rfl⟩)
     |(at_builtin;refine qaq _ rfl _ _ 207 rfl w.heap.size 3 i0 (.int .i64 0) 1 8 underlying207 hi hi0 hi1 hi2 rfl (by decide) _ (i) _ rfl (HOW.out.alloc _) (some ⟨wr.heap.size,0,none⟩) 1 1 [.int .i64 (((m:Int)+a+b) % 256)] rfl rfl (Row.qbP _ _ _ _ _ _ rfl rfl) (qcl _) ?_ ?_ ?_ ?_))
    ·unfold maxLen;omega
    ·omega
    ·have:=HKR.out.size;simp;omega
    ·intro v3 w3 hown3 hg3 hat3
     have HO3:=qh hown3;have HK3:=qh (qbe (HKR.out.alloc (HKR.out.size) _) (HOW.out.alloc _) (Nat.le_refl _) (by have:=HKR.out.size;simp;omega) hg3);clear hown3 hg3 hat3;go_wp2_with fail
     go_roundg gh
     case measure=>omega
     case rel=>
      have e1:((m:Int)+a+b) % 256=(((m+(a+b)) % 256:Nat):Int):=by omega
      have hO:=HO3.out;rw[e1,←qbZ]at hO;have hs:=qgO HV.out.1 HV.out.2.2;rw[←HAB.out.1,←HAB.out.2]at hs;exact⟨i+1,(m+(a+b)) / 256,D++[(m+(a+b)) % 256],by omega,by go_num,by first|rfl|(congr 1;omega),by simp[HV.out.1],qdT HV.out.2.1 (Nat.mod_lt _ (by omega)),by omega,hs,hO,HK3.out⟩
theorem qku (A A':Option Addr) (c c':Nat) (l l':List Nat) (x y:Nat) (w:World) (hl:l.length≤1000000) (hr:Row w A (qaV l)) (hr':Row w A' (qaV l')) (hd:D8 l x) (hd':D8 l' y) (hxy:y≤x):
  Calls prog 137 #[.slice A l.length c,.slice A' l'.length c'] w fun e w'=> ∃v,e=.returned v∧qbm w' v (x-y) l.length∧Kept w w':=by
 obtain⟨i0,hi,hi0,hi1,hi2⟩:=info_parts qdE
 have hll:l'.length≤l.length:=by
  rcases Nat.lt_or_ge l.length l'.length with h|h
  ·have:=hd.qdo hd' (by omega) h;omega
  ·exact h
 have HR:=qh hr;have HR':=qh hr';have HD:=qh hd;have HD':=qh hd';clear hr hr' hd hd';obtain⟨n,hn⟩: ∃n,n=l.length:=⟨_,rfl⟩
 obtain⟨k,hk⟩: ∃k,k=l'.length:=⟨_,rfl⟩
 have AT2:Hid (∀W (i:Nat),i≤1000000→Kept w W→Calls prog 173 #[.slice A' k c',.int .i64 (i:Int)] W fun e w'=>e=.returned (.int .i64 (atN l' i:Nat))∧w'=W):=fun W i hi hkk=>by
  rw[hk];exact(qfL A' c' l' i W (by omega) (HR'.out.kept hkk)).mono fun _ _ h=>h
 rw[←hn]at hl;rw[←hn,←hk]at hll;rw[←hn,←hk];have HN:=qh (And.intro hn hk);clear hn hk;go_enter func137,ntmps137
 go_wp2_with fail
 go_loopg [5,6,7,8] n (fun gh v5 v6 v7 v8 wr=> ∃(i m:Nat) (D:List Nat),i+gh=n∧v7=.int .i64 i∧v6=.int .i64 m∧D.length=i∧(∀z∈D,z<256)∧m≤1∧qab 256 D+qab 256 (l'.take i)=qab 256 (l.take i)+m*256 ^ D.length∧
  Own wr w.heap.size 1 v5 i (qaV D)∧Kept w wr)
 case atStart=>exact⟨0,0,[],by omega,rfl,rfl,rfl,by simp,by omega,by simp[qab],by simpa [qaV] using Own.nil w w.heap.size 1,Below.refl _ _⟩
 case round=>
  obtain⟨i,m,D,hig,rfl,rfl,hDl,hDo,hm,hv,ho,hk⟩:=hrel;have HOW:=qh ho;have HKR:=qh hk;have HV:=qh (And.intro hDl (And.intro hDo hv));clear hv ho hDo hDl;cases gk with
  |zero=>
   obtain rfl:i=n:=by omega
   have hF:=qh (qka HV.out.1 HV.out.2.1 HV.out.2.2 HN.out.1 HD.out.val (by have:=HN.out.2;omega) HD'.out.val hxy);go_wp2_with (go_at_call 161;refine(qeT (base:=w.heap.size) (n:=i) (m:=x-y) (k:=i) (L:=D) HOW.out HV.out.1 (by omega) (by omega) HV.out.2.1 hF.out).mono ?_;rintro e w9 ⟨v9,rfl,hd9,rfl⟩)
   go_ret
   exact⟨v9,rfl,hd9,HKR.out⟩
  |succ gh=>
   obtain⟨a,ha⟩: ∃x,l[i]? =some x:=⟨_,List.getElem?_eq_getElem (by have:=HN.out.1;omega)⟩
   have hab:=HD.out.ok a (List.mem_of_getElem? ha);obtain⟨ba,oa,rfl,ca⟩:=qb8 (HR.out.kept hk) ha;have hb:=qgX HD'.out.ok i;obtain⟨b,hbb⟩: ∃b,b=atN l' i:=⟨_,rfl⟩
   have C2:Hid (∀W,Kept w W→Calls prog 173 #[.slice A' k c',.int .i64 (i:Int)] W fun e w'=>e=.returned (.int .i64 (b:Int))∧w'=W):=fun W hk=>by rw[hbb];exact AT2.out W i (by omega) hk
   rw[←hbb]at hb;have HAB:=qh (And.intro (qec ha).symm hbb);have hin:(i:Int)<n:=by omega
   clear ha hbb;by_cases hlt:a<b+m
   ·have h1:(a:Int)-b-m<0:=by omega
    go_wp2_with fail
    go_quiet ((go_at_call 173;with_reducible exact Calls.quiet_of_same (C2.out _ (qaC HKR.out _))))
    have KD:=fun q=>qh (qaC HKR.out q);have OD:=fun q=>qh (HOW.out.drewN q);generalize hW:World.drewN wr _=w2;replace KD:=hW ▸ KD _;replace OD:=hW ▸ OD _;clear hW HKR HOW ca hk;go_wp2_with (at_builtin;refine qaq _ rfl _ _ 207 rfl w.heap.size 3 i0 (.int .i64 0) 1 8 underlying207 hi hi0 hi1 hi2 rfl (by decide) _ (i) _ rfl (OD.out.alloc _) (some ⟨w2.heap.size,0,none⟩) 1 1 [.int .i64 ((a:Int)-b-m+256)] rfl rfl (Row.qbP _ _ _ _ _ _ rfl rfl) (qcl _) ?_ ?_ ?_ ?_)
    ·unfold maxLen;omega
    ·omega
    ·have:=KD.out.size;simp;omega
    ·intro v3 w3 hown3 hg3 hat3
     have HO3:=qh hown3;have HK3:=qh (qbe (KD.out.alloc (KD.out.size) _) (OD.out.alloc _) (Nat.le_refl _) (by have:=KD.out.size;simp;omega) hg3);clear hown3 hg3 hat3;go_wp2_with fail
     go_roundg gh
     case measure=>omega
     case rel=>
      have e1:((a:Int)-b-m+256)=((a+256-b-m:Nat):Int):=by omega
      have hO:=HO3.out;rw[e1,←qbZ]at hO;exact⟨i+1,1,D++[a+256-b-m],by omega,by go_num,by first|rfl|(congr 1;omega),by simp[HV.out.1],qdT HV.out.2.1 (by omega),by omega,qgq HV.out.1 HV.out.2.2 (by rw[←HAB.out.1,←HAB.out.2];omega),hO,HK3.out⟩
   ·have h1: ¬(a:Int)-b-m<0:=by omega
    go_wp2_with fail
    go_quiet ((go_at_call 173;with_reducible exact Calls.quiet_of_same (C2.out _ (qaC HKR.out _))))
    have KD:=fun q=>qh (qaC HKR.out q);have OD:=fun q=>qh (HOW.out.drewN q);generalize hW:World.drewN wr _=w2;replace KD:=hW ▸ KD _;replace OD:=hW ▸ OD _;clear hW HKR HOW ca hk;go_wp2_with (at_builtin;refine qaq _ rfl _ _ 207 rfl w.heap.size 3 i0 (.int .i64 0) 1 8 underlying207 hi hi0 hi1 hi2 rfl (by decide) _ (i) _ rfl (OD.out.alloc _) (some ⟨w2.heap.size,0,none⟩) 1 1 [.int .i64 ((a:Int)-b-m)] rfl rfl (Row.qbP _ _ _ _ _ _ rfl rfl) (qcl _) ?_ ?_ ?_ ?_)
    ·unfold maxLen;omega
    ·omega
    ·have:=KD.out.size;simp;omega
    ·intro v3 w3 hown3 hg3 hat3
     have HO3:=qh hown3;have HK3:=qh (qbe (KD.out.alloc (KD.out.size) _) (OD.out.alloc _) (Nat.le_refl _) (by have:=KD.out.size;simp;omega) hg3);clear hown3 hg3 hat3;go_wp2_with fail
     go_roundg gh
     case measure=>omega
     case rel=>
      have e1:((a:Int)-b-m)=((a-b-m:Nat):Int):=by omega
      have hO:=HO3.out;rw[e1,←qbZ]at hO;exact⟨i+1,0,D++[a-b-m],by omega,by go_num,by first|rfl|(congr 1;omega),by simp[HV.out.1],qdT HV.out.2.1 (by omega),by omega,qgq HV.out.1 HV.out.2.2 (by rw[←HAB.out.1,←HAB.out.2];omega),hO,HK3.out⟩
theorem qgU (A:Option Addr) (c:Nat) (l:List Nat) (x s:Nat) (w:World) (hl:l.length≤1000000) (hs:s≤8*l.length) (hr:Row w A (qaV l)) (hd:D8 l x):
  Calls prog 164 #[.slice A l.length c,.int .i64 (s:Int)] w fun e w'=> ∃v,e=.returned v∧qbm w' v (x / 2 ^ s) l.length∧Kept w w':=by
 obtain⟨i0,hi,hi0,hi1,hi2⟩:=info_parts qdE;have HR:=qh hr;have HD:=qh hd;clear hr hd;obtain⟨n,hn⟩: ∃n,n=l.length:=⟨_,rfl⟩
 obtain⟨q,hq⟩: ∃q,q=s / 8:=⟨_,rfl⟩
 obtain⟨r,hr⟩: ∃r,r=s % 8:=⟨_,rfl⟩
 have AT1:Hid (∀W (i:Nat),i≤1000000→Kept w W→Calls prog 173 #[.slice A n c,.int .i64 (i:Int)] W fun e w'=>e=.returned (.int .i64 (atN l i:Nat))∧W=w'):=fun W i hi hkk=>by
  rw[hn];exact(qfL A c l i W (by omega) (HR.out.kept hkk)).mono fun _ _ h=>⟨h.1,h.2.symm⟩
 rw[←hn]at hl hs;rw[←hn];have HN:=qh hn;have HQ:=qh (And.intro hq hr);have eq1:(s:Int) / 8=q:=by omega
 have eq2:(s:Int) % 8=r:=by omega
 have hr9:r<8:=by omega
 have hr8:(r:Int)≤64:=by omega
 have hq9:q≤n:=by omega
 have HX:=qh (show x / 2 ^ s=x / 2 ^ r / 256 ^ q by rw[Nat.div_div_eq_div_mul,qj,←Nat.pow_add,show r+8*q=s by omega]);clear hn hq hr;go_enter func164,ntmps164
 go_wp2_with fail
 go_loopg [5,6] (n-q) (fun gh v5 v6 wr=> ∃(i j:Nat) (D:List Nat),i+gh=n∧i=q+j∧v6=.int .i64 i∧D.length=j∧(∀z∈D,z<256)∧qab 256 D=x / 2 ^ s % 256 ^ j∧
  Own wr w.heap.size 1 v5 j (qaV D)∧Kept w wr)
 case atStart=>exact⟨q,0,[],by omega,by omega,rfl,rfl,by simp,by rw[Nat.pow_zero,Nat.mod_one];rfl,by simpa [qaV] using Own.nil w w.heap.size 1,Below.refl _ _⟩
 case round=>
  obtain⟨i,j,D,hig,hij,rfl,hDl,hDo,hv,ho,hk⟩:=hrel;have HOW:=qh ho;have HKR:=qh hk;have HV:=qh (And.intro hDl (And.intro hDo hv));have HIJ:=qh hij;have hjn:j≤n:=by omega
  clear hv ho hDo hDl hij;cases gk with
  |zero=>
   obtain rfl:i=n:=by omega
   have hF:=qh (show qab 256 D=x / 2 ^ s by
    rw[HV.out.2.2,Nat.mod_eq_of_lt];rw[HX.out,Nat.div_lt_iff_lt_mul (Nat.pow_pos (by omega)),←Nat.pow_add];refine Nat.lt_of_le_of_lt (Nat.div_le_self _ _) ?_;have:=HD.out.lt;rw[←HN.out]at this;rw[show j+q=i by have:=HIJ.out;omega];exact this)
   go_wp2_with (go_at_call 161;refine(qeT (base:=w.heap.size) (n:=j) (m:=x / 2 ^ s) (k:=i) (L:=D) HOW.out HV.out.1 (by omega) (by omega) HV.out.2.1 hF.out).mono ?_;rintro e w9 ⟨v9,rfl,hd9,rfl⟩)
   go_ret
   exact⟨v9,rfl,hd9,HKR.out⟩
  |succ gh=>
   obtain⟨a,ha⟩: ∃x,l[i]? =some x:=⟨_,List.getElem?_eq_getElem (by have:=HN.out;omega)⟩
   have hab:=HD.out.ok a (List.mem_of_getElem? ha);obtain⟨ba,oa,rfl,c0⟩:=qb8 HR.out ha;have hb:=qgX HD.out.ok (i+1);obtain⟨b,hbb⟩: ∃b,b=atN l (i+1):=⟨_,rfl⟩
   have C2:Hid (∀W,Kept w W→Calls prog 173 #[.slice (some ⟨ba,oa,none⟩) n c,.int .i64 ((i:Int)+1)] W fun e w'=>e=.returned (.int .i64 (b:Int))∧W=w'):=fun W hk=>by rw[hbb];exact AT1.out W (i+1) (by omega) hk
   rw[←hbb]at hb;have HD2:=qh (qiF (r:=r) HD.out.ok hr9 (i:=i) (by have:=HN.out;omega));have HAB:=qh (And.intro (qec ha).symm hbb);have hin:(i:Int)<n:=by omega
   obtain⟨t,ht⟩: ∃t,t=(a+256*b) / 2 ^ r:=⟨_,rfl⟩
   have htI:((a:Int)+256*b) / 2 ^ r=(t:Int):=by rw[ht];simp
   have htb:t<65536:=by rw[ht];exact Nat.lt_of_le_of_lt (Nat.div_le_self _ _) (by omega)
   have HT:=qh ht;have w1:IntKind.i64.wrap ((i:Int)+1)=(i:Int)+1:=IntWalk.i64_in _ (by omega);have w2:IntKind.i64.wrap (256*(b:Int))=256*(b:Int):=IntWalk.i64_in _ (by omega);have w3:IntKind.i64.wrap ((a:Int)+256*b)=(a:Int)+256*b:=IntWalk.i64_in _ (by omega);have w4:(s:Int).tmod 8=(r:Int):=by rw[Int.tmod_eq_emod_of_nonneg (by omega)];exact eq2
   have w5:(t:Int).tmod 256=(t:Int) % 256:=Int.tmod_eq_emod_of_nonneg (by omega);have SK:Hid (∀W,Kept w W→W.cell? ⟨ba,oa+i,none⟩=some (.int .i64 (a:Int))):=fun W h=>(h.cells _ _ (lt_of_cell c0)).trans c0;have ca:=SK.out _ HKR.out;have KA:Hid (∀o,(wr.alloc o).drew.cell? ⟨ba,oa+i,none⟩=some (.int .i64 (a:Int))):=fun o=>SK.out _ (Kept.new HKR.out o).drew;clear ha hbb ht hk c0;go_wp2_with fail
   refine qbg (fun X=>X.cell? ⟨ba,oa+i,none⟩=some (.int .i64 (a:Int))) 17 (by kernel_rfl) ?_ (fun hHeld=>?_)
   ·first|exact HS.out|exact SK.out _ HKR.out|exact SK.out _ HKR.out.drew|exact KA.out _|exact SK.out _ HK3.out|assumption
   refine wL 0 15 ?_;refine wL 1 16 ?_;refine wL 2 17 ?_;refine wL 3 18 ?_;refine wL 4 19 ?_;refine wL 5 20 ?_;refine wL 6 21 ?_;refine wL 7 22 ?_;refine wL 11 26 ?_;refine wL 12 27 ?_;refine oL 8 fun K hK=>?_;go_simp;(refine(C2.out _ HKR.out.drew).mono ?_;rintro e w9 ⟨rfl,rfl⟩;skip)
   refine hK.out _ _ ?_ (fun hHeld=>?_)
   ·first|exact HS.out|exact SK.out _ HKR.out|exact SK.out _ HKR.out.drew|exact KA.out _|exact SK.out _ HK3.out|assumption
   clear hK K;try simp only[Act.put,tdy]
   refine wL 9 24 ?_;refine wL 10 25 ?_;refine wL 13 28 ?_;refine wL 14 29 ?_;refine oL 15 fun K hK=>?_;go_simp;refine hK.out _ _ ?_ (fun hHeld=>?_)
   ·first|exact HS.out|exact SK.out _ HKR.out|exact SK.out _ HKR.out.drew|exact KA.out _|exact SK.out _ HK3.out|assumption
   clear hK K;try simp only[Act.put,tdy]
   refine oL 16 fun K hK=>?_;(refine qeA _ rfl _ _ 207 rfl w.heap.size 3 i0 (.int .i64 0) 1 8 underlying207 hi hi0 hi1 hi2 rfl (by decide) _ j _ rfl ((HOW.out.drew).alloc _) (some ⟨wr.heap.size,0,none⟩) 1 1 [.int .i64 ((t:Int) % 256)] rfl rfl (Row.qbP _ _ _ _ _ _ rfl rfl) (qcl _) (by unfold maxLen;omega) (by omega) (by have:=HKR.out.size;simp;omega) ?_;intro v3 w3 hown3 hg3 hat3;have HK3:=qh (qbe (HKR.out.drew.alloc (by have:=HKR.out.size;simp;omega) _) ((HOW.out.drew).alloc _) (Nat.le_refl _) (by have:=HKR.out.size;simp;omega) hg3);have HO3:=qh hown3;clear hown3 hg3 hat3)
   refine hK.out _ _ ?_ (fun hHeld=>?_)
   ·first|exact HS.out|exact SK.out _ HKR.out|exact SK.out _ HKR.out.drew|exact KA.out _|exact SK.out _ HK3.out|assumption
   clear hK K;try simp only[Act.put,List.setIfInBounds_toArray]
   refine eL fun K hK=>?_;go_simp;refine hK.out _ _ ?_;clear hK K;try simp only[Act.put,tdy]
   refine dL ?_ _;go_wp2_with fail
   go_roundg gh
   case measure=>omega
   case rel=>
    have e1:((t:Int) % 256)=((x / 2 ^ s / 256 ^ j % 256:Nat):Int):=by
     have h1:=HD2.out;rw[←HAB.out.1,←HAB.out.2,←HT.out,HD.out.val]at h1;rw[show x / 2 ^ s / 256 ^ j=x / 2 ^ r / 256 ^ i by rw[HX.out,HIJ.out,Nat.div_div_eq_div_mul,←Nat.pow_add],h1];omega
    have hO:=HO3.out;rw[e1,←qbZ]at hO;exact⟨i+1,j+1,D++[x / 2 ^ s / 256 ^ j % 256],by omega,by have:=HIJ.out;omega,by go_num,by simp[HV.out.1],qdT HV.out.2.1 (Nat.mod_lt _ (by omega)),qjz HV.out.1 HV.out.2.2,hO,HK3.out⟩
end
theorem Own.qpf {W:World} {base n p c:Nat} {L:List Nat} (h:Own W base 1 (.slice (some ⟨p,0,none⟩) n c) n (qaV L)) {j:Nat} (hj:j<n) (x:Nat):Own (W.setCell ⟨p,j,none⟩ (.int .i64 (x:Int))) base 1 (.slice (some ⟨p,0,none⟩) n c) n (qaV (L.set j x)):=by
 have:=Own.put h (j:=j) (by omega) (.int .i64 (x:Int));rw[qnU];simpa using this
theorem Own.qpU {W:World} {base n p c:Nat} {L:List Nat} {j x:Nat} (h:Own W base 1 (.slice (some ⟨p,0,none⟩) n c) n (qaV L)) (hj:L[j]? =some x):W.cell? ⟨p,j,none⟩=some (.int .i64 (x:Int)):=by
 obtain⟨b,off,hA,hc⟩:=qb8 h.row hj;cases hA;simpa using hc
theorem qk8 {cy a y r:Nat} (hc:cy<256) (ha:a<256) (hy:y<256) (hr:r<256):a*y≤65025∧(cy+(r+a*y)) / 256<256:=by
 have h1:a*y≤255*255:=Nat.mul_le_mul (by omega) (by omega);exact⟨by omega,by omega⟩
theorem qnA {R l l':List Nat} {cy i j a y:Nat} (ha:l[i]? =some a) (hj:l'.length≤j) (hy:qab 256 l'=y) (hc:cy=0) (h:qab 256 R+cy*256 ^ (i+j)=qab 256 (l.take i)*y+256 ^ i*(a*qab 256 (l'.take j))):
  qab 256 R=qab 256 (l.take (i+1))*y:=by
 subst hc;rw[List.take_of_length_le hj,hy,Nat.zero_mul,Nat.add_zero]at h;rw[qap l i a ha,Nat.add_mul,Nat.mul_assoc,←h]
set_option maxRecDepth 100000 in
set_option maxHeartbeats 3200000 in
theorem qkz (A A':Option Addr) (c c':Nat) (l l':List Nat) (x y:Nat) (w:World) (hl:l.length≤1000000) (hl':l'.length≤1000000) (hr:Row w A (qaV l)) (hr':Row w A' (qaV l')) (hd:D8 l x) (hd':D8 l' y):
  Calls prog 162 #[.slice A l.length c,.slice A' l'.length c'] w fun e w'=> ∃v,e=.returned v∧qbm w' v (x*y) (l.length+l'.length+1)∧Kept w w':=by
 have HR:=qh hr;have HR':=qh hr';have HD:=qh hd;have HD':=qh hd';clear hr hr' hd hd';obtain⟨n,hn⟩: ∃n,n=l.length:=⟨_,rfl⟩
 obtain⟨k,hk⟩: ∃k,k=l'.length:=⟨_,rfl⟩
 have AT2:Hid (∀W (i:Nat),i≤1000000000→Kept w W→Calls prog 173 #[.slice A' k c',.int .i64 (i:Int)] W fun e w'=>e=.returned (.int .i64 (atN l' i:Nat))∧w'=W):=fun W i hi hkk=>by
  rw[hk];exact qfL A' c' l' i W (by omega) (HR'.out.kept hkk)
 rw[←hn]at hl;rw[←hk]at hl';rw[←hn,←hk];have HN:=qh (And.intro hn hk);clear hn hk
 have mk: ∀W,(Instr.makeSlice 207 (.int .i64 ((n:Int)+k+1)) (.int .i64 ((n:Int)+k+1))).run prog W=.ok (.slice (some ⟨W.heap.size,0,none⟩) (n+k+1) (n+k+1)) (W.alloc (.cells (qaV (List.replicate (n+k+1) 0)).toArray 3)):=fun W=>by
  have:=qjP (n+k+1) (by omega) W;simpa using this
 go_enter func162,ntmps162
 go_upto_region 2 with fail
 have HO:=qh (qlR w (n+k+1) (by omega));have HK:=qh (show Kept w (w.alloc (.cells (qaV (List.replicate (n+k+1) 0)).toArray 3))from(Below.refl _ _).alloc (Nat.le_refl _) _);generalize(w.alloc (.cells (qaV (List.replicate (n+k+1) 0)).toArray 3))=W1 at *;clear mk;obtain⟨N,hN⟩: ∃N,N=n+k+1:=⟨_,rfl⟩
 rw[←hN]at HO⊢;have hN2:n+k+1≤N:=by omega
 have hN3:N≤2000001:=by omega
 have HNN:=qh hN;clear hN;go_wp2_with fail
 go_loopg [6,7,8] n (fun gh v6 v7 v8 wr=> ∃(i:Nat) (R:List Nat),i+gh=n∧v6=.int .i64 i∧R.length=N∧(∀z∈R,z<256)∧(∀p,i+k≤p→p<N→R[p]? =some 0)∧qab 256 R=qab 256 (l.take i)*y∧Own wr w.heap.size 1 (.slice (some ⟨w.heap.size,0,none⟩) N N) N (qaV R)∧Kept w wr)
 case atStart=>exact⟨0,List.replicate N 0,by omega,rfl,by simp,fun z hz=>by rw[(List.mem_replicate.1 hz).2];omega,fun p _ hp=>by simp[hp],by rw[qcJ];simp[qab],by rw[HNN.out]at HO⊢;exact HO.out,HK.out⟩
 case round=>
  obtain⟨i,R,hig,rfl,hRl,hRo,hRz,hv,ho,hk⟩:=hrel;cases gk with
  |zero=>
   obtain rfl:i=n:=by omega
   have HV:=qh (show qab 256 R=x*y by rw[hv,List.take_of_length_le (by have:=HN.out.1;omega),HD.out.val]);have HZ:=qh (And.intro hRl hRo);have HOW:=qh ho;have HKR:=qh hk;clear hv ho hk hRl hRo hRz;go_wp2_with (go_at_call 161;refine(qeT (base:=w.heap.size) (m:=x*y) (k:=i+k+1) (L:=R) HOW.out HZ.out.1 (by omega) (by have:=HNN.out;omega) HZ.out.2 HV.out).mono ?_;rintro e w9 ⟨v9,rfl,hd9,rfl⟩)
   go_ret
   exact⟨v9,rfl,hd9,HKR.out⟩
  |succ gh=>
   obtain⟨a,ha⟩: ∃x,l[i]? =some x:=⟨_,List.getElem?_eq_getElem (by have:=HN.out.1;omega)⟩
   have hab:=HD.out.ok a (List.mem_of_getElem? ha);obtain⟨ba,oa,rfl,c0⟩:=qb8 HR.out ha;have SK:Hid (∀W,Kept w W→W.cell? ⟨ba,oa+i,none⟩=some (.int .i64 (a:Int))):=fun W h=>(h.cells _ _ (lt_of_cell c0)).trans c0;have HAA:=qh ha;have hin:(i:Int)<n:=by omega
   have HKR:=qh hk;have HOW:=qh ho;have HV:=qh (And.intro hRl (And.intro hRo (And.intro hRz hv)));obtain⟨Wo,hWo⟩: ∃X,X=wr:=⟨_,rfl⟩
   subst hWo;clear hv ho hk ha hRl hRo hRz c0;go_wp2_with fail
   go_loopg [7,8] (k+1) (fun gh v7 v8 wr=> ∃(j cy:Nat) (R:List Nat),j+gh=k+1∧v8=.int .i64 j∧v7=.int .i64 cy∧cy<256∧(k<j→cy=0)∧R.length=N∧(∀z∈R,z<256)∧(∀p,i+max j k≤p→p<N→R[p]? =some 0)∧qab 256 R+cy*256 ^ (i+j)=qab 256 (l.take i)*y+256 ^ i*(a*qab 256 (l'.take j))∧Own wr w.heap.size 1 (.slice (some ⟨w.heap.size,0,none⟩) N N) N (qaV R)∧Kept w wr)
   case atStart=>exact⟨0,0,R,by omega,rfl,rfl,by omega,fun _=>rfl,HV.out.1,HV.out.2.1,fun p hp=>HV.out.2.2.1 p (by omega),by rw[HV.out.2.2.2];simp[qab],HOW.out,HKR.out⟩
   case round=>
    clear HV HOW HKR;obtain⟨j,cy,R2,hjg,rfl,rfl,hcy,hcz,hRl,hRo,hRz,hv,ho,hk⟩:=hrel;have HKR:=qh hk;have HOW:=qh ho;have HV:=qh (And.intro hRl (And.intro hRo (And.intro hRz hv)));by_cases hex:k≤j∧cy=0
    ·obtain⟨hkj,rfl⟩:=hex
     have h1: ¬(j:Int)<k:=by omega
     have HJ:=qh (And.intro hkj hjg);clear hv ho hk hRl hRo hRz hcz hkj;go_wp2_with fail
     go_roundg gh
     case measure=>omega
     case rel=>
      exact⟨i+1,R2,by omega,by go_num,HV.out.1,HV.out.2.1,fun p hp hp2=>HV.out.2.2.1 p (by have:=HJ.out;omega) hp2,qnA HAA.out (by have:=HN.out.2;have:=HJ.out.1;omega) HD'.out.val rfl HV.out.2.2.2,HOW.out,HKR.out⟩
    ·have hjk:j≤k:=by
      rcases Nat.lt_or_ge k j with h|h
      ·exact absurd ⟨by omega,hcz h⟩ hex
      ·exact h
     obtain⟨gj,rfl⟩: ∃g,gk=g+1:=⟨gk-1,by omega⟩
     have hb:=qgX HD'.out.ok j;obtain⟨b,hbb⟩: ∃b,b=atN l' j:=⟨_,rfl⟩
     have C2:Hid (∀W,Kept w W→Calls prog 173 #[.slice A' k c',.int .i64 (j:Int)] W fun e w'=>e=.returned (.int .i64 (b:Int))∧w'=W):=fun W hk=>by rw[hbb];exact AT2.out W j (by omega) hk
     rw[←hbb]at hb;have HBB:=qh hbb;obtain⟨r,hr⟩: ∃x,R2[i+j]? =some x:=⟨_,List.getElem?_eq_getElem (by omega)⟩
     have hrb:=hRo r (List.mem_of_getElem? hr);have HRR:=qh hr;have KD:=fun q=>qh (qaC HKR.out q);have OD:=fun q=>qh (HOW.out.drewN q);have cR:=ho.qpU hr;have ca:=SK.out _ HKR.out;have hij:(i:Int)+j<N:=by omega
     have e1:((a:Int)*b)=((a*b:Nat):Int):=by simp
     obtain⟨g1,g4⟩:=qk8 hcy hab hb hrb;have HG4:=qh g4;obtain⟨m,hm⟩: ∃m,m=a*b:=⟨_,rfl⟩
     rw[←hm]at e1 g1;have HM:=qh hm
     have hgo:((j:Int)<k)∨(¬ (j:Int)<k∧(0:Int)<cy):=by
      rcases Nat.lt_or_ge j k with h|h
      ·exact .inl (by omega)
      ·exact .inr ⟨by omega,by have:cy≠0:=fun e=>hex ⟨h,e⟩
                               omega⟩
     have HJK:=qh (And.intro hjk hjg);clear hv ho hk hr hRl hRo hRz hm g4 hex hcz hbb HOW;rcases hgo with h1|⟨h1,h2⟩
     all_goals
      go_wp2_with fail
      go_quiet ((go_at_call 173;with_reducible exact Calls.quiet_of_same (C2.out _ (KD _).out)))
      generalize hW:World.drewN wr _=w2;have HK2:=qh (show Kept w w2 from hW ▸ (KD _).out);have HO2:=qh (show Own w2 w.heap.size 1 (.slice (some ⟨w.heap.size,0,none⟩) N N) N (qaV R2)from hW ▸ (OD _).out);clear hW KD OD cR ca;obtain⟨⟨u0,c0⟩,f0⟩:=HO2.out.free (j:=i+j) (by omega);go_wp2_with fail
      go_roundg gj
      case measure=>omega
      case rel=>
       have e2:((cy:Int)+r+m) % 256=(((cy+(r+a*b)) % 256:Nat):Int):=by rw[←HM.out];omega
       have hst:=qlZ (R:=R2) (l':=l') (cy:=cy) (p:=i+j) (i:=i) (j:=j) (a:=a) (r:=r) (S:=qab 256 (l.take i)*y) rfl HRR.out HV.out.2.2.2;rw[←HBB.out]at hst;rw[e2];refine⟨j+1,(cy+(r+a*b)) / 256,R2.set (i+j) ((cy+(r+a*b)) % 256),by have:=HJK.out.2;omega,by go_num,by rw[←HM.out];first|rfl|(congr 1;omega),HG4.out,fun hkj=>?_,by simp[HV.out.1],qpl HV.out.2.1 (Nat.mod_lt _ (by omega)),fun p hp hp2=>by rw[List.getElem?_set_ne (by omega)];exact HV.out.2.2.1 p (by omega) hp2,hst,HO2.out.qpf (by omega) _,HK2.out.setCell (p:=⟨w.heap.size,i+j,none⟩) (Nat.le_refl _) _⟩;have hjk2:j=k:=by have:=HJK.out.1;omega
       have hb0:b=0:=by rw[HBB.out,qf5 (by have:=HN.out.2;omega)]
       have hr0:r=0:=by have:=HV.out.2.2.1 (i+j) (by omega) (by omega);rw[HRR.out]at this;exact Option.some.inj this
       rw[hb0,hr0,Nat.mul_zero];omega
set_option maxRecDepth 100000 in
set_option maxHeartbeats 1600000 in
theorem qj5 (p r q:Nat) (b0:Bool) (u:Value) (x y:Int) (k j:Nat) (w:World) (hx:qar w p x k) (hy:qar w r y j) (hk:k≤100000000) (hj:j≤100000000) (hq:qaX w q b0 u) (hu: ∀x:Int,u≠ .int .u32 x):
  Calls prog 134 #[.pointer (some ⟨q,0,none⟩),.pointer (some ⟨p,0,none⟩),.pointer (some ⟨r,0,none⟩)] w fun e w'=>e=.returned (.pointer (some ⟨q,0,none⟩))∧qar w' q (x+y) (max k j+1)∧w.grownBy w' (some q):=by
 obtain⟨v,hb,A,c,l,rfl,hlc,hl,hr,hdl⟩:=hx;obtain⟨v',hb',A',c',l',rfl,hlc',hl',hr',hdl'⟩:=hy
 have C0:Hid (∀W,Kept w W→Calls prog 155 #[.slice A l.length c,.slice A' l'.length c'] W fun e w'=>e=.returned (.int .i64 (qbG x.natAbs y.natAbs))∧Kept W w'):=fun W h=>
  (qhd A A' c c' l l' x.natAbs y.natAbs W (by omega) (by omega) (hr.kept h) (hr'.kept h) hdl hdl').mono fun e w' ⟨h1,m,h2⟩=>⟨h1,by rw[h2];exact qaC (Below.refl _ _) m⟩
 by_cases hbs:decide (x<0)=decide (y<0)
 ·have hb9:(x<0↔y<0):=by simpa using hbs
  have C1:Hid (∀W,Kept w W→Calls prog 170 #[.slice A l.length c,.slice A' l'.length c'] W fun e w'=> ∃v,e=.returned v∧qb7 w' v (x.natAbs+y.natAbs) (max k j+1)∧Kept W w'):=fun W h=>
   (qnf A A' c c' l l' x.natAbs y.natAbs W (by omega) (by omega) (hr.kept h) (hr'.kept h) hdl hdl').mono fun e w' ⟨v,h1,h2,h3⟩=>⟨v,h1,h2.more (by omega),h3⟩
  have C2:Hid (∀W v,Kept w W→qb7 W v (x.natAbs+y.natAbs) (max k j+1)→Calls prog 152 #[.pointer (some ⟨q,0,none⟩),.bool (decide (x<0)),v] W fun e w'=>e=.returned (.pointer (some ⟨q,0,none⟩))∧qar w' q (x+y) (max k j+1)∧W.grownBy w' (some q)):=fun W v h hd=>
   qbY q b0 _ u v (x+y) (x.natAbs+y.natAbs) _ W (hq.kept h) hu hd (by omega) (by rw[Bool.eq_iff_iff];simp only[Bool.and_eq_true,decide_eq_true_eq];omega)
  obtain⟨b,hbv⟩: ∃b,b=decide (x<0):=⟨_,rfl⟩
  obtain⟨b',hbv'⟩: ∃b,b=decide (y<0):=⟨_,rfl⟩
  obtain⟨s,hs⟩: ∃s,s=qbG x.natAbs y.natAbs:=⟨_,rfl⟩
  have hbb:(b==b')=true:=by rw[hbv,hbv'];exact beq_iff_eq.2 hbs
  rw[←hbv]at hb;rw[←hbv']at hb';rw[←hbv]at C2;rw[←hs]at C0;have SK:Hid (∀W,Kept w W→W.cell? ⟨p,0,none⟩=some (.bool b)∧W.cell? ⟨p,1,none⟩=some (.slice A l.length c)∧W.cell? ⟨r,0,none⟩=some (.bool b')∧W.cell? ⟨r,1,none⟩=some (.slice A' l'.length c')):=fun W h=>⟨(hb.kept h).c0,(hb.kept h).c1,(hb'.kept h).c0,(hb'.kept h).c1⟩
  have HS:=qh (SK.out w (Below.refl _ _));clear hbv hb hr hdl hbv' hb' hr' hdl' hq hu hs hbs;go_enter func134,ntmps134
  go_upto_region 1 with fail
  refine qbg (fun W=>W.cell? ⟨p,0,none⟩=some (.bool b)∧W.cell? ⟨p,1,none⟩=some (.slice A l.length c)∧W.cell? ⟨r,0,none⟩=some (.bool b')∧W.cell? ⟨r,1,none⟩=some (.slice A' l'.length c')) 9 (by kernel_rfl) ?_ (fun hHeld=>?_)
  ·first|exact HS.out|assumption
  refine wL 0 8 ?_;refine wL 1 9 ?_;refine wL 2 10 ?_;refine wL 3 11 ?_;refine wL 4 12 ?_;refine wL 5 13 ?_;refine wL 6 14 ?_;refine wL 7 15 ?_;refine oL 8 fun K hK=>?_;go_simp;(refine(C0.out _ ((Below.refl _ _).drew)).mono ?_;rintro e w6 ⟨rfl,hk6⟩;have K6:Kept w w6:=((Below.refl _ w).drew).trans hk6;have hS6:=SK.out w6 K6)
  refine hK.out _ _ ?_ (fun hHeld=>?_)
  ·first|exact HS.out|assumption
  clear hK K;try simp only[Act.put,tdy]
  refine eL fun K hK=>?_;go_simp;refine hK.out _ _ ?_;clear hK K;try simp only[Act.put,tdy]
  refine dL ?_ _;go_wp2_with fail
  obtain⟨s0,s1,s2,s3⟩:=SK.out w6 K6;go_quiet (fail)
  have K7:=qh (show Kept w (w6.drewN nq)from qaC K6 nq);have hS7:=qh (SK.out _ K7.out);generalize w6.drewN nq=w7 at *;clear s0 s1 s2 s3 hS6 K6 hk6;go_wp2_with fail
  refine qac (fun W=>W.cell? ⟨p,0,none⟩=some (.bool b)∧W.cell? ⟨p,1,none⟩=some (.slice A l.length c)∧W.cell? ⟨r,0,none⟩=some (.bool b')∧W.cell? ⟨r,1,none⟩=some (.slice A' l'.length c')) [14,15] (by kernel_rfl) ?_ (fun hHeld=>?_)
  ·first|exact hS7.out|assumption
  refine wS 0 42 ?_;refine wS 1 43 ?_;refine wS 2 44 ?_;refine wS 3 45 ?_;refine wS 4 46 ?_;refine wS 5 47 ?_;refine wS 6 48 ?_;refine wS 7 49 ?_;refine wS 8 50 ?_;refine wS 9 51 ?_;refine wS 10 52 ?_;refine wS 11 53 ?_;refine wS 12 54 ?_;refine oS 13 fun K hK=>?_;go_simp;(refine(C1.out _ (Below.drew K7.out)).mono ?_;rintro e w8 ⟨v8,rfl,hd8,hk8⟩;have K8:Kept w w8:=Below.trans K7.out (Below.mono (show Below w7.heap.size w7 w8 from(Below.refl _ w7).drew.trans hk8) (Below.size K7.out));have hS8:=SK.out w8 K8)
  refine hK.out _ _ ?_ (fun hHeld=>?_)
  ·first|exact hS7.out|assumption
  clear hK K;try simp only[Act.put,tdy]
  refine eS 14 fun K hK=>?_;go_simp;(refine(C2.out _ _ K8 hd8).mono ?_;rintro e w9 ⟨rfl,h9,hg9⟩)
  refine hK.out _ _ ?_;clear hK K;try simp only[Act.put,tdy]
  refine eS 15 fun K hK=>?_;go_simp;refine hK.out _ _ ?_;clear hK K;try simp only[Act.put,tdy]
  refine dS ?_ _;go_wp2_with fail
  go_ret
  exact⟨rfl,h9,qba K8 hg9⟩
 ·have hb9: ¬(x<0↔y<0):=by simpa using hbs
  by_cases hlt:x.natAbs<y.natAbs
  ·skip
   have C1:Hid (∀W,Kept w W→Calls prog 171 #[.slice A' l'.length c',.slice A l.length c] W fun e w'=> ∃v,e=.returned v∧qb7 w' v (y.natAbs-x.natAbs) (max k j+1)∧Kept W w'):=fun W h=>
    (qh3 A' A c' c l' l y.natAbs x.natAbs W (by omega) (hr'.kept h) (hr.kept h) hdl' hdl (by omega)).mono fun e w' ⟨v,h1,h2,h3⟩=>⟨v,h1,h2.more (by omega),h3⟩
   have C2:Hid (∀W v,Kept w W→qb7 W v (y.natAbs-x.natAbs) (max k j+1)→Calls prog 152 #[.pointer (some ⟨q,0,none⟩),.bool (decide (y<0)),v] W fun e w'=>e=.returned (.pointer (some ⟨q,0,none⟩))∧qar w' q (x+y) (max k j+1)∧W.grownBy w' (some q)):=fun W v h hd=>
    qbY q b0 _ u v (x+y) (y.natAbs-x.natAbs) _ W (hq.kept h) hu hd (by omega) (by rw[Bool.eq_iff_iff];simp only[Bool.and_eq_true,decide_eq_true_eq];omega)
   obtain⟨b,hbv⟩: ∃b,b=decide (x<0):=⟨_,rfl⟩
   obtain⟨b',hbv'⟩: ∃b,b=decide (y<0):=⟨_,rfl⟩
   obtain⟨s,hs⟩: ∃s,s=qbG x.natAbs y.natAbs:=⟨_,rfl⟩
   have hbb:(b==b')=false:=by rw[hbv,hbv'];exact beq_eq_false_iff_ne.2 hbs
   rw[←hbv]at hb;rw[←hbv']at hb';rw[←hbv']at C2;rw[←hs]at C0;have hsg:s<0:=by rw[hs];rw[qcw hlt];omega
   have SK:Hid (∀W,Kept w W→W.cell? ⟨p,0,none⟩=some (.bool b)∧W.cell? ⟨p,1,none⟩=some (.slice A l.length c)∧W.cell? ⟨r,0,none⟩=some (.bool b')∧W.cell? ⟨r,1,none⟩=some (.slice A' l'.length c')):=fun W h=>⟨(hb.kept h).c0,(hb.kept h).c1,(hb'.kept h).c0,(hb'.kept h).c1⟩
   have HS:=qh (SK.out w (Below.refl _ _));clear hbv hb hr hdl hbv' hb' hr' hdl' hq hu hs hbs;go_enter func134,ntmps134
   go_upto_region 1 with fail
   refine qbg (fun W=>W.cell? ⟨p,0,none⟩=some (.bool b)∧W.cell? ⟨p,1,none⟩=some (.slice A l.length c)∧W.cell? ⟨r,0,none⟩=some (.bool b')∧W.cell? ⟨r,1,none⟩=some (.slice A' l'.length c')) 9 (by kernel_rfl) ?_ (fun hHeld=>?_)
   ·first|exact HS.out|assumption
   refine wL 0 8 ?_;refine wL 1 9 ?_;refine wL 2 10 ?_;refine wL 3 11 ?_;refine wL 4 12 ?_;refine wL 5 13 ?_;refine wL 6 14 ?_;refine wL 7 15 ?_;refine oL 8 fun K hK=>?_;go_simp;(refine(C0.out _ ((Below.refl _ _).drew)).mono ?_;rintro e w6 ⟨rfl,hk6⟩;have K6:Kept w w6:=((Below.refl _ w).drew).trans hk6;have hS6:=SK.out w6 K6)
   refine hK.out _ _ ?_ (fun hHeld=>?_)
   ·first|exact HS.out|assumption
   clear hK K;try simp only[Act.put,tdy]
   refine eL fun K hK=>?_;go_simp;refine hK.out _ _ ?_;clear hK K;try simp only[Act.put,tdy]
   refine dL ?_ _;go_wp2_with fail
   obtain⟨s0,s1,s2,s3⟩:=SK.out w6 K6;go_quiet (fail)
   have K7:=qh (show Kept w (w6.drewN nq)from qaC K6 nq);have hS7:=qh (SK.out _ K7.out);generalize w6.drewN nq=w7 at *;clear s0 s1 s2 s3 hS6 K6 hk6;go_wp2_with fail
   refine qac (fun W=>W.cell? ⟨p,0,none⟩=some (.bool b)∧W.cell? ⟨p,1,none⟩=some (.slice A l.length c)∧W.cell? ⟨r,0,none⟩=some (.bool b')∧W.cell? ⟨r,1,none⟩=some (.slice A' l'.length c')) [14,15] (by kernel_rfl) ?_ (fun hHeld=>?_)
   ·first|exact hS7.out|assumption
   refine wS 0 60 ?_;refine wS 1 61 ?_;refine wS 2 62 ?_;refine wS 3 63 ?_;refine wS 4 64 ?_;refine wS 5 65 ?_;refine wS 6 66 ?_;refine wS 7 67 ?_;refine wS 8 68 ?_;refine wS 9 69 ?_;refine wS 10 70 ?_;refine wS 11 71 ?_;refine wS 12 72 ?_;refine oS 13 fun K hK=>?_;go_simp;(refine(C1.out _ (Below.drew K7.out)).mono ?_;rintro e w8 ⟨v8,rfl,hd8,hk8⟩;have K8:Kept w w8:=Below.trans K7.out (Below.mono (show Below w7.heap.size w7 w8 from(Below.refl _ w7).drew.trans hk8) (Below.size K7.out));have hS8:=SK.out w8 K8)
   refine hK.out _ _ ?_ (fun hHeld=>?_)
   ·first|exact hS7.out|assumption
   clear hK K;try simp only[Act.put,tdy]
   refine eS 14 fun K hK=>?_;go_simp;(refine(C2.out _ _ K8 hd8).mono ?_;rintro e w9 ⟨rfl,h9,hg9⟩)
   refine hK.out _ _ ?_;clear hK K;try simp only[Act.put,tdy]
   refine eS 15 fun K hK=>?_;go_simp;refine hK.out _ _ ?_;clear hK K;try simp only[Act.put,tdy]
   refine dS ?_ _;go_wp2_with fail
   go_ret
   exact⟨rfl,h9,qba K8 hg9⟩
  ·skip
   have C1:Hid (∀W,Kept w W→Calls prog 171 #[.slice A l.length c,.slice A' l'.length c'] W fun e w'=> ∃v,e=.returned v∧qb7 w' v (x.natAbs-y.natAbs) (max k j+1)∧Kept W w'):=fun W h=>
    (qh3 A A' c c' l l' x.natAbs y.natAbs W (by omega) (hr.kept h) (hr'.kept h) hdl hdl' (by omega)).mono fun e w' ⟨v,h1,h2,h3⟩=>⟨v,h1,h2.more (by omega),h3⟩
   have C2:Hid (∀W v,Kept w W→qb7 W v (x.natAbs-y.natAbs) (max k j+1)→Calls prog 152 #[.pointer (some ⟨q,0,none⟩),.bool (decide (x<0)),v] W fun e w'=>e=.returned (.pointer (some ⟨q,0,none⟩))∧qar w' q (x+y) (max k j+1)∧W.grownBy w' (some q)):=fun W v h hd=>
    qbY q b0 _ u v (x+y) (x.natAbs-y.natAbs) _ W (hq.kept h) hu hd (by omega) (by rw[Bool.eq_iff_iff];simp only[Bool.and_eq_true,decide_eq_true_eq];omega)
   obtain⟨b,hbv⟩: ∃b,b=decide (x<0):=⟨_,rfl⟩
   obtain⟨b',hbv'⟩: ∃b,b=decide (y<0):=⟨_,rfl⟩
   obtain⟨s,hs⟩: ∃s,s=qbG x.natAbs y.natAbs:=⟨_,rfl⟩
   have hbb:(b==b')=false:=by rw[hbv,hbv'];exact beq_eq_false_iff_ne.2 hbs
   rw[←hbv]at hb;rw[←hbv']at hb';rw[←hbv]at C2;rw[←hs]at C0;have hsg: ¬s<0:=by rw[hs];unfold qbG;rw[if_neg hlt];split<;>omega
   have SK:Hid (∀W,Kept w W→W.cell? ⟨p,0,none⟩=some (.bool b)∧W.cell? ⟨p,1,none⟩=some (.slice A l.length c)∧W.cell? ⟨r,0,none⟩=some (.bool b')∧W.cell? ⟨r,1,none⟩=some (.slice A' l'.length c')):=fun W h=>⟨(hb.kept h).c0,(hb.kept h).c1,(hb'.kept h).c0,(hb'.kept h).c1⟩
   have HS:=qh (SK.out w (Below.refl _ _));clear hbv hb hr hdl hbv' hb' hr' hdl' hq hu hs hbs;go_enter func134,ntmps134
   go_upto_region 1 with fail
   refine qbg (fun W=>W.cell? ⟨p,0,none⟩=some (.bool b)∧W.cell? ⟨p,1,none⟩=some (.slice A l.length c)∧W.cell? ⟨r,0,none⟩=some (.bool b')∧W.cell? ⟨r,1,none⟩=some (.slice A' l'.length c')) 9 (by kernel_rfl) ?_ (fun hHeld=>?_)
   ·first|exact HS.out|assumption
   refine wL 0 8 ?_;refine wL 1 9 ?_;refine wL 2 10 ?_;refine wL 3 11 ?_;refine wL 4 12 ?_;refine wL 5 13 ?_;refine wL 6 14 ?_;refine wL 7 15 ?_;refine oL 8 fun K hK=>?_;go_simp;(refine(C0.out _ ((Below.refl _ _).drew)).mono ?_;rintro e w6 ⟨rfl,hk6⟩;have K6:Kept w w6:=((Below.refl _ w).drew).trans hk6;have hS6:=SK.out w6 K6)
   refine hK.out _ _ ?_ (fun hHeld=>?_)
   ·first|exact HS.out|assumption
   clear hK K;try simp only[Act.put,tdy]
   refine eL fun K hK=>?_;go_simp;refine hK.out _ _ ?_;clear hK K;try simp only[Act.put,tdy]
   refine dL ?_ _;go_wp2_with fail
   obtain⟨s0,s1,s2,s3⟩:=SK.out w6 K6;go_quiet (fail)
   have K7:=qh (show Kept w (w6.drewN nq)from qaC K6 nq);have hS7:=qh (SK.out _ K7.out);generalize w6.drewN nq=w7 at *;clear s0 s1 s2 s3 hS6 K6 hk6;go_wp2_with fail
   refine qac (fun W=>W.cell? ⟨p,0,none⟩=some (.bool b)∧W.cell? ⟨p,1,none⟩=some (.slice A l.length c)∧W.cell? ⟨r,0,none⟩=some (.bool b')∧W.cell? ⟨r,1,none⟩=some (.slice A' l'.length c')) [14,15] (by kernel_rfl) ?_ (fun hHeld=>?_)
   ·first|exact hS7.out|assumption
   refine wS 0 17 ?_;refine wS 1 18 ?_;refine wS 2 19 ?_;refine wS 3 20 ?_;refine wS 4 21 ?_;refine wS 5 22 ?_;refine wS 6 23 ?_;refine wS 7 24 ?_;refine wS 8 25 ?_;refine wS 9 26 ?_;refine wS 10 27 ?_;refine wS 11 28 ?_;refine wS 12 29 ?_;refine oS 13 fun K hK=>?_;go_simp;(refine(C1.out _ (Below.drew K7.out)).mono ?_;rintro e w8 ⟨v8,rfl,hd8,hk8⟩;have K8:Kept w w8:=Below.trans K7.out (Below.mono (show Below w7.heap.size w7 w8 from(Below.refl _ w7).drew.trans hk8) (Below.size K7.out));have hS8:=SK.out w8 K8)
   refine hK.out _ _ ?_ (fun hHeld=>?_)
   ·first|exact hS7.out|assumption
   clear hK K;try simp only[Act.put,tdy]
   refine eS 14 fun K hK=>?_;go_simp;(refine(C2.out _ _ K8 hd8).mono ?_;rintro e w9 ⟨rfl,h9,hg9⟩)
   refine hK.out _ _ ?_;clear hK K;try simp only[Act.put,tdy]
   refine eS 15 fun K hK=>?_;go_simp;refine hK.out _ _ ?_;clear hK K;try simp only[Act.put,tdy]
   refine dS ?_ _;go_wp2_with fail
   go_ret
   exact⟨rfl,h9,qba K8 hg9⟩
section
set_option maxHeartbeats 1600000
set_option maxRecDepth 100000
def bytesV (l:List UInt8):List Value:=l.map fun b=>.int .u8 (b.toNat:Int)
theorem qe7 (l:List UInt8):(bytesV l).length=l.length:=by simp[bytesV]
theorem qkA (l:List UInt8) (k:Nat) (x:UInt8):bytesV (l.set k x)=(bytesV l).set k (.int .u8 (x.toNat:Int)):=by simp[bytesV,List.map_set]
theorem qhE {B:Nat} (l:List Nat) (hok: ∀x∈l,x<B) (k:Nat) (hk:k≤l.length):qab B (l.take k)=qab B l % B ^ k:=by
 have h1:=qcO (B:=B) l k hk;have h2:=qcn (B:=B) (l.take k) fun x hx=>hok x (List.mem_of_mem_take hx);rw[List.length_take,Nat.min_eq_left hk]at h2;rw[h1,Nat.add_mul_mod_self_left,Nat.mod_eq_of_lt h2]
theorem qoT {a b:Nat} (ha:a<4294967296) (hb:b<4294967296):bits BinOp.or IntKind.u64 ((a:Int)*4294967296) (b:Int)=((b+4294967296*a:Nat):Int):=by
 have:=qg2 hb ha
 rw[show bits BinOp.or IntKind.u64 ((a:Int)*4294967296) (b:Int)=bits BinOp.or IntKind.u64 (b:Int) ((a:Int)*4294967296) by
  unfold bits;simp only[BitVec.or_comm]]
 rw[this,Nat.mul_comm a]
theorem qij (p:Nat) (x:Int) (k:Nat) (w:World) (hx:qar w p x k) (hk:k≤100000000):
  Calls prog 187 #[.pointer (some ⟨p,0,none⟩)] w fun e w'=>e=.returned (.int .u64 ((x.natAbs % 18446744073709551616:Nat):Int))∧∃m,w'=w.drewN m:=by
 obtain⟨v,hb,A,c,l,rfl,hlc,hl,hr,hdl⟩:=hx;obtain⟨m,hm⟩: ∃m,m=min l.length 2:=⟨_,rfl⟩
 have HF:=qh (show qab 4294967296 (l.take m)=x.natAbs % 18446744073709551616 by
  rw[qhE l hdl.ok m (by omega),hdl.val];rcases(show m=2∨(m<2∧m=l.length) by omega)with h|⟨h1,h2⟩
  ·rw [h]
  ·have h3:=hdl.lt
   rw[Nat.mod_eq_of_lt (by rw[h2];exact h3),Nat.mod_eq_of_lt];have:(4294967296:Nat) ^ l.length≤4294967296 ^ 2:=Nat.pow_le_pow_right (by omega) (by omega);have e:(4294967296:Nat) ^ 2=18446744073709551616:=by decide
   omega)
 have HD:=qh hdl;have HR:=qh hr;have hmi:(if (l.length:Int)<2 then(l.length:Int)else 2)=m:=by omega
 have hmi2:min (l.length:Int) 2=m:=by omega
 have HM:=qh hm;have hm2:m≤2:=by omega
 have hml:m≤l.length:=by omega
 have c1:=hb.c1;clear hm hb hdl hr;go_enter func187,ntmps187
 go_wp2_with fail
 go_loopg [3,4] m (fun gh v3 v4 wr=>v4=.int .i64 ((gh:Int)-1)∧gh≤m∧v3=.int .u64 (qab 4294967296 ((l.take m).drop gh):Nat)∧∃m,wr=w.drewN m)
 case atStart=>exact⟨by go_num,Nat.le_refl _,by rw[List.drop_eq_nil_of_le (by rw[List.length_take];omega)];rfl,0,rfl⟩
 case round=>
  obtain⟨rfl,hgm,rfl,nd,rfl⟩:=hrel;cases gk with
  |zero=>
   go_wp2_with fail
   go_ret
   exact⟨qaW (by rw[List.drop_zero,HF.out]),nd,rfl⟩
  |succ gh=>
   obtain⟨a,ha⟩: ∃x,l[gh]? =some x:=⟨_,List.getElem?_eq_getElem (by omega)⟩
   obtain⟨ba,oa,rfl,ca⟩:=qbO HR.out ha;have hab:=HD.out.ok a (List.mem_of_getElem? ha);obtain⟨t,ht⟩: ∃t,t=qab 4294967296 ((l.take m).drop (gh+1)):=⟨_,rfl⟩
   have htb:t<4294967296:=by
    have h1:=qcn (B:=4294967296) ((l.take m).drop (gh+1)) fun z hz=>HD.out.ok z (List.mem_of_mem_take (List.mem_of_mem_drop hz));rw[←ht,List.length_drop,List.length_take]at h1;have h2:(4294967296:Nat) ^ (min m l.length-(gh+1))≤4294967296 ^ 1:=Nat.pow_le_pow_right (by omega) (by omega);omega
   have e3:=qoT htb hab
   have HV:=qh (show qab 4294967296 ((l.take m).drop gh)=a+4294967296*t by
    have hx:(l.take m)[gh]? =some a:=by rw[List.getElem?_take_of_lt (by omega)];exact ha
    have hlt:=(List.getElem?_eq_some_iff.1 hx).1;rw[List.drop_eq_getElem_cons hlt,qab,←ht];congr 1
    rw[List.getElem?_eq_getElem hlt]at hx;exact Option.some.inj hx)
   rw[←ht];have hg1:((gh:Int)+1-1)=gh:=by omega
   have hg2:(0:Int)≤gh:=by omega
   have hg3:(gh:Int)<l.length:=by omega
   clear ha ht;go_wp2_with fail
   go_roundg gh
   case measure=>omega
   case rel=>exact⟨by go_num,by omega,by rw[HV.out,Int.natCast_add,Int.natCast_mul];rfl,_,rfl⟩
theorem qiE :(prog.info? 5).map (fun i=>(i.zero,i.size,i.bytes))=some (some (.int .u8 0),1,1):=by kernel_rfl
def qc9 (n:Nat):Array Value:=(bytesV (List.replicate n 0)).toArray
theorem qiO (n:Nat) (hn:n≤1000000000) (W:World):(Instr.makeSlice 97 (.int .i64 (n:Int)) (.int .i64 (n:Int))).run prog W=.ok (.slice (some ⟨W.heap.size,0,none⟩) n n) (W.alloc (.cells (qc9 n) 5)):=by
 obtain⟨i,hi,hi0,hi1,hi2⟩:=info_parts qiE;have h9:=run_make (P:=prog) W 97 5 i (.int .u8 0) underlying97 hi hi0 .i64 .i64 (n:Int) (n:Int) (by omega) (Int.le_refl _) (by rw[hi2];omega) (by omega);rw[hi1,Int.toNat_natCast,Nat.mul_one,show(Value.int .u8 0).cells=#[.int .u8 0]from rfl,qhn]at h9;rw[h9];simp[qc9,bytesV]
theorem qiR (W:World) (n:Nat) (hn:n≤1000000000):Own (W.alloc (.cells (qc9 n) 5)) W.heap.size 1 (.slice (some ⟨W.heap.size,0,none⟩) n n) n (bytesV (List.replicate n 0)):=
 Own.new W _ _ (0,0) n 1 _ W.heap.size W.heap.size rfl (Nat.le_refl _) (by unfold maxLen;omega) (by simp[qc9,bytesV]) rfl (.inr rfl)
theorem Own.byte {W:World} {base n p c:Nat} {L:List UInt8} (h:Own W base 1 (.slice (some ⟨p,0,none⟩) n c) n (bytesV L)) {j:Nat} (hj:j<n) (x:Nat) (hx:x<256):Own (W.setCell ⟨p,j,none⟩ (.int .u8 (x:Int))) base 1 (.slice (some ⟨p,0,none⟩) n c) n (bytesV (L.set j (UInt8.ofNat x))):=by
 have:=Own.put h (j:=j) (by omega) (.int .u8 (x:Int));rw[qkA,show((UInt8.ofNat x).toNat:Int)=x by rw[UInt8.toNat_ofNat',Nat.mod_eq_of_lt hx]];simpa using this
theorem qkU (p:Nat) (x:Int) (k:Nat) (w:World) (hx:qar w p x k) (hk:k≤10000000):
  Calls prog 169 #[.pointer (some ⟨p,0,none⟩)] w fun e w'=> ∃A c,e=.returned (.slice A (qaB x.natAbs).length c)∧(qaB x.natAbs).length≤c∧(qaB x.natAbs).length≤4*k∧Row w' A (bytesV (qaB x.natAbs))∧Kept w w':=by
 have hx0:=hx;obtain⟨v,hb,A,c,l,rfl,hlc,hl,hr,hdl⟩:=hx;have CS:=qh (qhM A c l x.natAbs w (by omega) hr hdl);have HD:=qh hdl;have HR:=qh hr;have HB:=qh hb;have c1:=hb.c1;clear hb hdl hr;go_enter func169,ntmps169
 go_upto_region 2 with (go_at_call 181;refine CS.out.mono ?_;rintro e w1 ⟨t,rfl,hbl,htl,rfl⟩)
 obtain⟨n,hn⟩: ∃n,n=(qaB x.natAbs).length:=⟨_,rfl⟩
 have hnt:n=(t+7) / 8:=by rw[hn,qaT,qpu hbl]
 have HN:=qh (show(qdv 256 x.natAbs).length=n by rw[hn,qaT]);have hnk:n≤4*k:=by omega
 have hni:((t:Int)+7) / 8=n:=by omega
 have HN2:=qh hn;clear hn hbl hnt;rw[hni];clear hni;have mk:=qiO n (by omega);go_upto_region 3 with fail
 have HO:=qh (qiR w1 n (by omega));have HK:=qh (show Kept w1 (w1.alloc (.cells (qc9 n) 5))from(Below.refl _ _).alloc (Nat.le_refl _) _);obtain⟨g,hg⟩: ∃g,g=w1.heap.size:=⟨_,rfl⟩
 rw[←hg]at HO⊢;generalize(w1.alloc (.cells (qc9 n) 5))=W1 at *;clear mk htl CS;have HG:=qh hg;clear hg;go_wp2_with fail
 go_loopg [5,17] n (fun gh v5 v17 wr=> ∃(i:Nat) (L:List UInt8),i+gh=n∧v17=.int .i64 i∧L.length=n∧(∀j,j<i→L[n-1-j]? =some (UInt8.ofNat (x.natAbs / 256 ^ j % 256)))∧
   Own wr g 1 (.slice (some ⟨g,0,none⟩) n n) n (bytesV L)∧Kept w1 wr)
 case atStart=>exact⟨0,List.replicate n 0,by omega,rfl,by simp,fun j hj=>by omega,HO.out,HK.out⟩
 case round=>
  obtain⟨i,L,hig,rfl,hL,hv,ho,hk1⟩:=hrel;cases gk with
  |zero=>
   obtain rfl:n=i:=by omega
   have HV:=qh hv;have HOW:=qh ho;have HKR:=qh hk1;clear hv ho hk1;go_wp2_with fail
   go_ret
   have e:L=qaB x.natAbs:=qe1 (by rw[hL,HN.out]) (fun i hi=>by rw[hL];exact HV.out i (by omega));rw[←HN2.out];exact⟨_,_,rfl,Nat.le_refl _,hnk,by rw[←e];exact HOW.out.row,HKR.out⟩
  |succ gh=>
   obtain⟨q,hq⟩: ∃q,q=i / 4:=⟨_,rfl⟩
   obtain⟨r,hr⟩: ∃r,r=i % 4:=⟨_,rfl⟩
   have hq1:(i:Int) / 4=q:=by omega
   have hr1:(i:Int) % 4=r:=by omega
   have hr4:r<4:=by omega
   obtain⟨z,hz⟩: ∃z,z=8*r:=⟨_,rfl⟩
   have hz1:(r:Int)*8=z:=by omega
   have hz9:z<32:=by omega
   have hql:q<l.length:=by
    have h1:=HN.out;have h2:=qbM (B:=256) (by omega) x.natAbs (4*l.length);have h3:=HD.out.lt;rw[show(4294967296:Nat)=256 ^ 4 by decide,←Nat.pow_mul]at h3;have:=h2.2 h3;omega
   obtain⟨d,hd⟩: ∃d,l[q]? =some d:=⟨_,List.getElem?_eq_getElem hql⟩
   obtain⟨bd,od,rfl,cd⟩:=qbO (HR.out.kept hk1) hd;have hdb:=HD.out.ok d (List.mem_of_getElem? hd);have HE:=qh (qhD (i:=i) HD.out.ok HD.out.val (by rw[←hq];exact hd));rw[←hr,←hz]at HE;have hqi:(q:Int)<l.length:=by omega
   have hx1:(0:Int)≤(n:Int)-1-i:=by omega
   have hx2:(n:Int)-1-i<n:=by omega
   obtain⟨⟨u0,c0⟩,f0⟩:=ho.free (j:=n-1-i) (by omega);have hx3:((n:Int)-1-i).toNat=n-1-i:=by omega
   have c1':=(HB.out.kept hk1).c1;have hp1:p<g:=by have:=HB.out.lt;have:=HG.out;omega
   have HV:=qh hv;have HOW:=qh ho;have HKR:=qh hk1;have hin:(i:Int)<n:=by omega
   clear hv ho hk1 hd hq hr hz;go_wp2_with fail
   go_roundg gh
   case measure=>omega
   case rel=>
    have e1:(d:Int) / 2 ^ z % 256=((x.natAbs / 256 ^ i % 256:Nat):Int):=by rw[←HE.out];simp
    rw[e1];refine⟨i+1,L.set (n-1-i) (UInt8.ofNat (x.natAbs / 256 ^ i % 256)),by omega,by go_num,by simpa using hL,fun j hj=>?_,HOW.out.byte (by omega) _ (Nat.mod_lt _ (by omega)),HKR.out.setCell (p:=⟨g,n-1-i,none⟩) (show w1.heap.size≤g by have:=HG.out;omega) _⟩;by_cases hji:j=i
    ·subst hji
     rw[List.getElem?_set_self (by omega)]
    ·rw [List.getElem?_set_ne (by omega)]
     exact HV.out j (by omega)
end
theorem qgP (l:List UInt8) (k:Nat) (x:UInt8) (h:l[k]? =some x):(bytesV l)[k]? =some (.int .u8 (x.toNat:Int)):=by simp[bytesV,h]
theorem byte_at {W:World} {A:Option Addr} {l:List UInt8} (h:Row W A (bytesV l)) {k:Nat} {x:UInt8} (hx:l[k]? =some x): ∃b off,A=some ⟨b,off,none⟩∧W.cell? ⟨b,off+k,none⟩=some (.int .u8 (x.toNat:Int)):=by
 have hk:=(List.getElem?_eq_some_iff.1 hx).1;obtain⟨b,off,hA,hc⟩:=h.at_ (k:=k) (by rw[qe7];exact hk);refine⟨b,off,hA,?_⟩;rw[hc];have:=qgP l k x hx;rw[List.getElem?_eq_getElem (by rw[qe7];exact hk)]at this;exact this
set_option maxRecDepth 100000 in
set_option maxHeartbeats 1600000 in
theorem qd4 (q:Nat) (b0:Bool) (u:Value) (A:Option Addr) (c:Nat) (l:List UInt8) (w:World) (hl:l.length≤10000000) (hr:Row w A (bytesV l)) (hq:qaX w q b0 u) (hu: ∀x:Int,u≠ .int .u32 x):
  Calls prog 150 #[.pointer (some ⟨q,0,none⟩),.slice A l.length c] w fun e w'=>e=.returned (.pointer (some ⟨q,0,none⟩))∧qar w' q (qc8 l:Int) (l.length / 4+1)∧w.grownBy w' (some q):=by
 have HR:=qh hr;have HQ:=qh (And.intro hq hu);obtain⟨n,hn⟩: ∃n,n=l.length:=⟨_,rfl⟩
 obtain⟨m,hm⟩: ∃m,m=n / 4+1:=⟨_,rfl⟩
 have hm1:(n:Int) / 4+1=m:=by omega
 rw[←hn]at hl⊢;rw[←hm];have HN:=qh hn;have HM:=qh hm;have mk:=qdG m (by omega);clear hr hq hu hn hm;go_enter func150,ntmps150
 go_upto_region 2 with fail
 have HO:=qh (qex w m (by have:=HM.out;omega));have HK:=qh (show Kept w (w.alloc (.cells (qaA (List.replicate m 0)).toArray 253))from(Below.refl _ _).alloc (Nat.le_refl _) _);obtain⟨g,hg⟩: ∃g,g=w.heap.size:=⟨_,rfl⟩
 rw[←hg]at HO⊢;generalize(w.alloc (.cells (qaA (List.replicate m 0)).toArray 253))=W1 at *;clear mk;have HG:=qh hg;clear hg;go_wp2_with fail
 go_loopg [6,7,8,16] n (fun gh v6 v7 v8 v16 wr=> ∃(i:Nat) (D:List Nat),i+gh=n∧v16=.int .i64 i∧D.length=m∧(∀z∈D,z<4294967296)∧qab 4294967296 D=256 ^ (n-i)*qc8 (l.take i)∧
   Own wr g 1 (.slice (some ⟨g,0,none⟩) m m) m (qaA D)∧Kept w wr)
 case atStart=>exact⟨0,List.replicate m 0,by omega,rfl,by simp,fun z hz=>by rw[List.eq_of_mem_replicate hz];omega,by rw[qcJ];rfl,HO.out,HK.out⟩
 case round=>
  obtain⟨i,D,hig,rfl,hD,hok,hv,ho,hk1⟩:=hrel;cases gk with
  |zero=>
   obtain rfl:n=i:=by omega
   have HF:=qh (show qab 4294967296 D=qc8 l by rw[hv,Nat.sub_self,Nat.pow_zero,Nat.one_mul,List.take_of_length_le (by have:=HN.out;omega)]);have HV:=qh (And.intro hD hok);have HOW:=qh ho;have HKR:=qh hk1;clear hv ho hk1 hD hok
   have CUT:Hid (∀W,Kept wr W→Calls prog 182 #[.slice (some ⟨g,0,none⟩) m m] W fun e w'=> ∃v,e=.returned v∧qb7 w' v (qc8 l) m∧w'=W):=fun W h=>
    qdu (W0:=w) (by rw[←HG.out];exact HOW.out.kept h) HV.out.1 (by have:=HM.out;omega) (Nat.le_refl _) HV.out.2 HF.out
   have LAID:Hid (∀W v,Kept w W→qb7 W v (qc8 l) m→Calls prog 152 #[.pointer (some ⟨q,0,none⟩),.bool false,v] W fun e w'=>e=.returned (.pointer (some ⟨q,0,none⟩))∧qar w' q (qc8 l:Int) m∧W.grownBy w' (some q)):=fun W v h hd=>
    qbY q b0 false u v (qc8 l:Int) (qc8 l) m W (HQ.out.1.kept h) HQ.out.2 hd (by omega) (by rw[Bool.eq_iff_iff];simp)
   clear HV HOW HF HR HQ HG HM HN HO HK
   go_wp2_with (first
    |(go_at_call 182;(with_reducible refine(CUT.out _ (Below.refl _ _)).mono ?_);rintro e w8 ⟨v8,rfl,hd8,hw8⟩;subst hw8)
    |(go_at_call 152;(with_reducible refine(LAID.out _ _ HKR.out hd8).mono ?_);rintro e w9 ⟨rfl,h9,hg9⟩))
   go_ret
   exact⟨rfl,h9,qba HKR.out hg9⟩
  |succ gh=>
   obtain⟨x,hx⟩: ∃x,l[i]? =some x:=⟨_,List.getElem?_eq_getElem (by have:=HN.out;omega)⟩
   obtain⟨bx,ox,rfl,cx⟩:=byte_at (HR.out.kept hk1) hx;have hxb:=x.toNat_lt;obtain⟨y,hy⟩: ∃y,y=x.toNat:=⟨_,rfl⟩
   rw[←hy]at cx hxb;obtain⟨k,hk⟩: ∃k,k=n-1-i:=⟨_,rfl⟩
   obtain⟨j,hj⟩: ∃j,j=k / 4:=⟨_,rfl⟩
   obtain⟨r,hr⟩: ∃r,r=k % 4:=⟨_,rfl⟩
   obtain⟨z,hz⟩: ∃z,z=8*r:=⟨_,rfl⟩
   have hk2:(n:Int)-1-i=k:=by omega
   have hj1:(k:Int) / 4=j:=by omega
   have hr1:(k:Int) % 4=r:=by omega
   have hz1:(r:Int)*8=z:=by omega
   have hz9:z<32:=by omega
   have hjm:j<m:=by have:=HM.out;omega
   obtain⟨d,hd⟩: ∃d,D[j]? =some d:=⟨_,List.getElem?_eq_getElem (by omega)⟩
   have hdb:=hok d (List.mem_of_getElem? hd);rw[show n-i=k+1 by omega]at hv;have h1:=qkJ (V:=qc8 (l.take i)) (k:=k) hok hv (by rw[←hj];exact hd) y (by omega);rw[←hr,←hz]at h1;have HS:=qh (qk4 (V:=qc8 (l.take i)) (k:=k) (c:=y) hv (by rw[←hj];exact hd));rw[←hr,←hz,←hj]at HS
   have e1:IntKind.u32.wrap ((y:Int)*2 ^ z)=((y*2 ^ z:Nat):Int):=by
    rw[show(y:Int)*2 ^ z=((y*2 ^ z:Nat):Int) by simp];rw[IntKind.wrap_u32];omega
   have e2:bits BinOp.or IntKind.u32 (d:Int) ((y*2 ^ z:Nat):Int)=((d+y*2 ^ z:Nat):Int):=by
    rw[u32_or_nat _ _ (by omega) (by omega),h1.1]
   obtain⟨s,hs⟩: ∃s,s=y*2 ^ z:=⟨_,rfl⟩
   rw[←hs]at e1 e2 h1 HS;have HE:=qh h1.2;have HV:=qh (And.intro hD hok);have HOW:=qh ho;have HKR:=qh hk1;have HX:=qh hx;have HY:=qh hy;have HKK:=qh hk;have f0:=(ho.free (j:=j) hjm).2;have cd:=ho.qdv hd;have hji:(j:Int)<m:=by omega
   have hin:(i:Int)<n:=by omega
   have hxg:bx<w.heap.size:=by
    rcases HR.out with h|⟨b,off,hA,hc⟩
    ·have h2:l=[]:=by simpa [bytesV] using h
     have:=HX.out;rw[h2]at this;cases this
    ·cases hA
     exact lt_of_cell (hc i _ (qgP l i x hx))
   clear hv ho hk1 hd hx hy hk hD hok h1 hj hr hz hs;go_wp2_with fail
   go_roundg gh
   case measure=>omega
   case rel=>
    refine⟨i+1,D.set j (d+s),by omega,by go_num,by simpa using HV.out.1,qkG HV.out.2 HE.out,?_,HOW.out.lay hjm _,HKR.out.setCell (p:=⟨g,j,none⟩) (show w.heap.size≤g by have:=HG.out;omega) _⟩;rw[qhj l i x HX.out,←HY.out,show n-(i+1)=k by have:=HKK.out;omega];exact HS.out
section
set_option maxHeartbeats 1600000
set_option maxRecDepth 100000
theorem qaX.qpZ (W:World):qb7 W (.slice none 0 0) 0 0:=⟨none,0,[],rfl,by simp,by simp,.inl rfl,Dig.nil⟩
theorem qcb : ∀(A:Option Addr) (n c:Nat) (x:Int),Value.slice A n c≠ .int .u32 x:=fun _ _ _ _ h=>by cases h
theorem qaX.qp5 {W:World} {p:Nat} (h:qaX W p false (.slice none 0 0)):qar W p 0 0:=⟨.slice none 0 0,h,qaX.qpZ W⟩
theorem qjY (q:Nat) (b0:Bool) (u:Value) (x:Nat) (w:World) (hx:x<18446744073709551616) (hq:qaX w q b0 u) (hu: ∀x:Int,u≠ .int .u32 x):
  Calls prog 184 #[.pointer (some ⟨q,0,none⟩),.int .u64 (x:Int)] w fun e w'=>e=.returned (.pointer (some ⟨q,0,none⟩))∧qar w' q (x:Int) 2∧w.grownBy w' (some q):=by
 obtain⟨lo,hlo⟩: ∃lo,lo=x % 4294967296:=⟨_,rfl⟩
 obtain⟨hi,hhi⟩: ∃hi,hi=x / 4294967296:=⟨_,rfl⟩
 have e1:(x:Int) % 4294967296=lo:=by omega
 have e2:(x:Int) / 4294967296=hi:=by omega
 have e3:(hi:Int) % 4294967296=hi:=by omega
 have hv:=qh (show qab 4294967296 [lo,hi]=x by simp only[qab];omega)
 have hok:=qh (show∀z∈[lo,hi],z<4294967296 by
  intro z hz;simp only[List.mem_cons,List.not_mem_nil,or_false]at hz;rcases hz with rfl|rfl<;>omega)
 have CUT:Hid (∀W,Row W (some ⟨w.heap.size,0,none⟩) (qaA [lo,hi])→Calls prog 182 #[.slice (some ⟨w.heap.size,0,none⟩) 2 2] W fun e w'=> ∃v,e=.returned v∧qb7 w' v x 2∧w'=W):=fun W hr=>by
  refine(qjm (some ⟨w.heap.size,0,none⟩) 2 [lo,hi] W (by simp) (by simp) hr hok.out).mono ?_;rintro e w' ⟨m,rfl,hm,hd,rfl⟩;rw[hv.out]at hd;have hm2:m≤2:=by simpa using hm
  exact⟨_,rfl,⟨_,2,[lo,hi].take m,by rw[List.length_take,Nat.min_eq_left hm],by rw[List.length_take];omega,by rw[List.length_take];omega,by rw[qh5];exact hr.take m,hd⟩,rfl⟩
 have LAID:Hid (∀W v,Kept w W→qb7 W v x 2→Calls prog 152 #[.pointer (some ⟨q,0,none⟩),.bool false,v] W fun e w'=>e=.returned (.pointer (some ⟨q,0,none⟩))∧qar w' q (x:Int) 2∧W.grownBy w' (some q)):=fun W v h hd=>
  qbY q b0 false u v (x:Int) x 2 W (hq.kept h) hu hd (by omega) (by rw[Bool.eq_iff_iff];simp)
 clear hlo hhi hv hok hq hu;go_enter func184,ntmps184
 go_wp2_with (first
  |(go_at_call 182;(with_reducible refine(CUT.out _ ?_).mono ?_);(exact Row.new _ _ _ _ _ rfl);rintro e w8 ⟨v8,rfl,hd8,hw8⟩;subst hw8)
  |(go_at_call 152;(with_reducible refine(LAID.out _ _ ?_ hd8).mono ?_);(exact(Below.refl _ _).alloc (Nat.le_refl _) _);rintro e w9 ⟨rfl,h9,hg9⟩))
 go_ret
 exact⟨rfl,h9,qba ((Below.refl _ _).alloc (Nat.le_refl _) _) hg9⟩
theorem qaD {w V W':World} {p:Nat} (h:Kept w V) (hp:w.heap.size≤p) (hg:V.grownBy W' (some p)):Kept w W':=
 ⟨hg.os.trans h.os,hg.tape.trans h.tape,hg.output.trans h.output,Nat.le_trans h.size hg.size,fun k hk=>(hg.block k (Nat.lt_of_lt_of_le hk h.size) (by intro e;cases e;exact absurd hk (by omega))).trans (h.block k hk)⟩
theorem qar.box {W:World} {p:Nat} {z:Int} {k:Nat} (h:qar W p z k): ∃b u,qaX W p b u∧∀x:Int,u≠ .int .u32 x:=by
 obtain⟨v,h1,h2⟩:=h;exact⟨_,v,h1,h2.slice⟩
theorem qaX.neg {W:World} {p:Nat} {b:Bool} {v:Value} (h:qaX W p b v) (b':Bool):qaX (W.setCell ⟨p,0,none⟩ (.bool b')) p b' v:=by
 have hlt:=h.lt;unfold qaX at h⊢;simp[World.setCell,Array.getElem?_modify,h]
theorem qeZ (W:World) (p:Nat) (x:Value):W.grownBy (W.setCell ⟨p,0,none⟩ x) (some p):=by
 have h1:=qcv W p 0 [x];simpa [World.setCells] using h1
theorem qar.sign {W:World} {p:Nat} {z:Int} {k:Nat} (h:qar W p z k) (hz:0<z):qar (W.setCell ⟨p,0,none⟩ (.bool true)) p (-z) k:=by
 obtain⟨v,h1,h2⟩:=h;refine⟨v,by rw[decide_eq_true (show -z<0 by omega)];exact h1.neg true,?_⟩;rw[Int.natAbs_neg];exact h2.grown h1 h2.slice (qeZ W p _)
theorem qjK (x:Int) (w:World) (h0: -9223372036854775808≤x) (h1:x≤9223372036854775807):
  Calls prog 165 #[.int .i64 x] w fun e w'=> ∃p,e=.returned (.pointer (some ⟨p,0,none⟩))∧w.heap.size≤p∧qar w' p x 2∧Kept w w':=by
 have SET:Hid (∀W (p:Nat) (y:Nat),(∃b u,qaX W p b u∧∀x:Int,u≠ .int .u32 x)→y<18446744073709551616→Calls prog 184 #[.pointer (some ⟨p,0,none⟩),.int .u64 (y:Int)] W fun e w'=>e=.returned (.pointer (some ⟨p,0,none⟩))∧qar w' p (y:Int) 2∧W.grownBy w' (some p)):=fun W p y ⟨b,u,h,hu⟩ hy=>
  qjY p b u y W hy h hu
 by_cases hx:x<0
 ·obtain⟨y,hy⟩: ∃y:Nat,(y:Int)=x+18446744073709551616:=⟨(x+18446744073709551616).toNat,by omega⟩
  obtain⟨z,hz⟩: ∃z:Nat,(z:Int)= -x:=⟨(-x).toNat,by omega⟩
  have e1:IntKind.u64.wrap x=(y:Int):=by rw[IntKind.wrap_u64];omega
  have e2:IntKind.u64.wrap (-(y:Int))=(z:Int):=by rw[IntKind.wrap_u64];omega
  have hy1:y<18446744073709551616:=by omega
  have hz1:z<18446744073709551616:=by omega
  have HZ:=qh hz;clear hy hz;go_enter func165,ntmps165
  go_upto_region 2 with (go_at_call 184;(with_reducible refine(SET.out _ _ y ⟨_,_,qaX.new _ _ _ _ rfl,qcb _ _ _⟩ hy1).mono ?_);rintro e w1 ⟨rfl,h9,hg9⟩)
  obtain⟨p,hp⟩: ∃p,p=w.heap.size:=⟨_,rfl⟩
  rw[←hp]at h9 hg9⊢;have HP:=qh (show w.heap.size≤p by omega);have HI:=qh h9;have HK:=qh (show Kept w w1 from qaD ((Below.refl _ _).alloc (Nat.le_refl _) _) (by omega) hg9);clear h9 hg9 hp;go_upto_region 4 with (go_at_call 184;(with_reducible refine(SET.out _ _ z HI.out.box hz1).mono ?_);rintro e w2 ⟨rfl,h9,hg9⟩)
  have HI2:=qh h9;have HK2:=qh (qaD HK.out HP.out hg9);obtain⟨v,hb,-⟩:=h9;have c0:=hb.c0;have f0:=hb.f 0;clear hg9 hb;go_wp2_with fail
  go_ret
  have h:=HI2.out.sign (by have:=HZ.out;omega);rw[show -(z:Int)=x by have:=HZ.out;omega]at h;exact⟨_,rfl,HP.out,h,HK2.out.setCell (p:=⟨p,0,none⟩) HP.out _⟩
 ·obtain⟨y,hy⟩: ∃y:Nat,(y:Int)=x:=⟨x.toNat,by omega⟩
  have e1:IntKind.u64.wrap x=(y:Int):=by rw[IntKind.wrap_u64];omega
  have hy1:y<18446744073709551616:=by omega
  have HY:=qh hy;clear hy;go_enter func165,ntmps165
  go_wp2_with (go_at_call 184;(with_reducible refine(SET.out _ _ y ⟨_,_,qaX.new _ _ _ _ rfl,qcb _ _ _⟩ hy1).mono ?_);rintro e w1 ⟨rfl,h9,hg9⟩)
  go_ret
  exact⟨_,rfl,Nat.le_refl _,by rw[←HY.out];exact h9,qaD ((Below.refl _ _).alloc (Nat.le_refl _) _) (Nat.le_refl _) hg9⟩
theorem qoy (p r q:Nat) (b0:Bool) (u:Value) (x y:Int) (k j:Nat) (w:World) (hx:qar w p x k) (hy:qar w r y j) (hk:k≤100000000) (hj:j≤100000000) (hq:qaX w q b0 u) (hu: ∀x:Int,u≠ .int .u32 x):
  Calls prog 188 #[.pointer (some ⟨q,0,none⟩),.pointer (some ⟨p,0,none⟩),.pointer (some ⟨r,0,none⟩)] w fun e w'=>e=.returned (.pointer (some ⟨q,0,none⟩))∧qar w' q (x-y) (max k j+1)∧w.grownBy w' (some q):=by
 have NEG:Hid (∀W,Kept w W→qaX W w.heap.size false (.slice none 0 0)→Calls prog 151 #[.pointer (some ⟨w.heap.size,0,none⟩),.pointer (some ⟨r,0,none⟩)] W fun e w'=>e=.returned (.pointer (some ⟨w.heap.size,0,none⟩))∧qar w' w.heap.size (-y) j∧Kept w w'):=fun W h hb=>
  (qi6 r w.heap.size false _ y j W (hy.kept h) hb (qcb _ _ _)).mono fun e w' ⟨h1,h2,h3⟩=>⟨h1,h2,qaD h (Nat.le_refl _) h3⟩
 have ADD:Hid (∀W,Kept w W→qar W w.heap.size (-y) j→Calls prog 134 #[.pointer (some ⟨q,0,none⟩),.pointer (some ⟨p,0,none⟩),.pointer (some ⟨w.heap.size,0,none⟩)] W fun e w'=>e=.returned (.pointer (some ⟨q,0,none⟩))∧qar w' q (x-y) (max k j+1)∧w.grownBy w' (some q)):=fun W h hb=>
  (qj5 p w.heap.size q b0 u x (-y) k j W (hx.kept h) hb hk hj (hq.kept h) hu).mono fun e w' ⟨h1,h2,h3⟩=>⟨h1,by rw[Int.sub_eq_add_neg];exact h2,qba h h3⟩
 clear hx hy hq hu;go_enter func188,ntmps188
 go_wp2_with (first
  |(go_at_call 151;(with_reducible refine(NEG.out _ ?_ ?_).mono ?_);(exact(Below.refl _ _).alloc (Nat.le_refl _) _);(exact qaX.new _ _ _ _ rfl);rintro e w8 ⟨rfl,h8,hk8⟩)
  |(go_at_call 134;(with_reducible refine(ADD.out _ hk8 h8).mono ?_);rintro e w9 ⟨rfl,h9,hg9⟩))
 go_ret
 exact⟨rfl,h9,hg9⟩
theorem qi4 (p q:Nat) (b0:Bool) (u:Value) (x s:Nat) (k:Nat) (w:World) (hx:qar w p (x:Int) k) (hk:k≤100000000) (hs:s≤1000000000) (hq:qaX w q b0 u) (hu: ∀x:Int,u≠ .int .u32 x):
  Calls prog 167 #[.pointer (some ⟨q,0,none⟩),.pointer (some ⟨p,0,none⟩),.int .u64 (s:Int)] w fun e w'=>e=.returned (.pointer (some ⟨q,0,none⟩))∧qar w' q ((x / 2 ^ s:Nat):Int) k∧w.grownBy w' (some q):=by
 obtain⟨v,hb,A,c,l,rfl,hlc,hl,hr,hdl⟩:=hx;rw[Int.natAbs_natCast]at hdl;rw[decide_eq_false (show¬(x:Int)<0 by omega)]at hb
 have C1:Hid (∀W,Kept w W→Calls prog 186 #[.slice A l.length c,.int .u64 (s:Int)] W fun e w'=> ∃v,e=.returned v∧qb7 w' v (x / 2 ^ s) k∧Kept w w'):=fun W h=>
  (qk1 A c l x s W (by omega) hlc hs (hr.kept h) hdl).mono fun e w' ⟨v,h1,h2,h3⟩=>⟨v,h1,h2.more (by omega),h.trans' h3⟩
 have C2:Hid (∀W v,Kept w W→qb7 W v (x / 2 ^ s) k→Calls prog 152 #[.pointer (some ⟨q,0,none⟩),.bool false,v] W fun e w'=>e=.returned (.pointer (some ⟨q,0,none⟩))∧qar w' q ((x / 2 ^ s:Nat):Int) k∧w.grownBy w' (some q)):=fun W v h hd=>
  (qbY q b0 false u v ((x / 2 ^ s:Nat):Int) (x / 2 ^ s) _ W (hq.kept h) hu hd (Int.natAbs_natCast _) (by rw[Bool.false_and,decide_eq_false (Int.not_lt.2 (Int.natCast_nonneg _))])).mono fun e w' ⟨h1,h2,h3⟩=>⟨h1,h2,qba h h3⟩
 have SK:Hid (∀W,Kept w W→W.cell? ⟨p,0,none⟩=some (.bool false)∧W.cell? ⟨p,1,none⟩=some (.slice A l.length c)):=fun W h=>⟨(hb.kept h).c0,(hb.kept h).c1⟩
 have hS0:=SK.out w (Below.refl _ _);clear hb hr hdl hq hu;go_enter func167,ntmps167
 go_upto_region 2 with (go_at_call 186;(with_reducible refine(C1.out _ (Below.refl _ _)).mono ?_);rintro e w8 ⟨v8,rfl,hd8,hk8⟩)
 have K8:=qh hk8;have D8:=qh hd8;have hS8:=SK.out w8 hk8;clear hk8 hd8;go_wp2_with (go_at_call 152;(with_reducible refine(C2.out _ _ K8.out D8.out).mono ?_);rintro e w9 ⟨rfl,h9,hg9⟩)
 go_ret
 exact⟨rfl,h9,hg9⟩
end
end Go.Proofs.YtfdnledkcongaaaGreatDoor
