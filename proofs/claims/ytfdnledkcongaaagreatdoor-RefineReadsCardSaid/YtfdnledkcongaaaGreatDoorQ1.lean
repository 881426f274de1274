/- Texts of one claim laid together: WidB, WidC, WidD, WidE, WidF, WidG, NatC, Dya, WidH, WidI. -/
import Derived.Test.YtfdnledkcongaaaGreatDoorQ0
import Derived.Deep.DeepCutAuto
import Derived.Laws.BitsAllLaws
import Derived.Laws.Bits64b
import Derived.Lib.Walk
import Derived.Lib.BitFns
import Derived.BigQuiet
import Derived.Deep.QuietTactic
import Derived.Deep.LoopGhost
import Derived.Lib.Strings
import Derived.Test.YtfdnledkcongaaaGreatDoorRows
set_option linter.all false
namespace Go.Proofs.YtfdnledkcongaaaGreatDoor
open Go.RowKit Go.Proofs.Tryz
theorem qoi :(prog.info? 253).map (fun i=>(i.zero,i.size,i.bytes))=some (some (.int .u32 0),1,4):=by kernel_rfl
theorem qhn (z:Value) (N:Nat):madeCells #[z] N=(List.replicate N z).toArray:=by
 apply Array.ext';apply List.ext_getElem?;intro i;by_cases hi:i<N
 ·simp [madeCells,hi,Nat.mod_one]
 ·rw [List.getElem?_eq_none (by simp[madeCells];omega),List.getElem?_eq_none (by simp;omega)]
theorem qdG (n:Nat) (hn:n≤1000000000) (W:World):(Instr.makeSlice 229 (.int .i64 (n:Int)) (.int .i64 (n:Int))).run prog W=.ok (.slice (some ⟨W.heap.size,0,none⟩) n n) (W.alloc (.cells (qaA (List.replicate n 0)).toArray 253)):=by
 obtain⟨i,hi,hi0,hi1,hi2⟩:=info_parts qoi;have h9:=run_make (P:=prog) W 229 253 i (.int .u32 0) underlying229 hi hi0 .i64 .i64 (n:Int) (n:Int) (by omega) (Int.le_refl _) (by rw[hi2];omega) (by omega);rw[hi1,Int.toNat_natCast,Nat.mul_one,show(Value.int .u32 0).cells=#[.int .u32 0]from rfl,qhn]at h9;rw[h9];simp[qaA]
theorem qex (W:World) (n:Nat) (hn:n≤1000000000):Own (W.alloc (.cells (qaA (List.replicate n 0)).toArray 253)) W.heap.size 1 (.slice (some ⟨W.heap.size,0,none⟩) n n) n (qaA (List.replicate n 0)):=
 Own.new W _ _ (0,0) n 1 _ W.heap.size W.heap.size rfl (Nat.le_refl _) (by unfold maxLen;omega) (by simp[qaA]) rfl (.inr rfl)
theorem Own.lay {W:World} {base n p c:Nat} {L:List Nat} (h:Own W base 1 (.slice (some ⟨p,0,none⟩) n c) n (qaA L)) {j:Nat} (hj:j<n) (x:Nat):Own (W.setCell ⟨p,j,none⟩ (.int .u32 (x:Int))) base 1 (.slice (some ⟨p,0,none⟩) n c) n (qaA (L.set j x)):=by
 have:=Own.put h (j:=j) (by omega) (.int .u32 (x:Int));rw[qow];simpa using this
theorem Own.qdv {W:World} {base n p c:Nat} {L:List Nat} {j x:Nat} (h:Own W base 1 (.slice (some ⟨p,0,none⟩) n c) n (qaA L)) (hj:L[j]? =some x):W.cell? ⟨p,j,none⟩=some (.int .u32 (x:Int)):=by
 obtain⟨b,off,hA,hc⟩:=qbO h.row hj;cases hA;simpa using hc
theorem Own.free {W:World} {base n p c j:Nat} {xs:List Value} (h:Own W base 1 (.slice (some ⟨p,0,none⟩) n c) n xs) (hj:j<n):(∃u,W.cell? ⟨p,j,none⟩=some u)∧W.frozen? ⟨p,j,none⟩=false:=by
 have:=h.cells (j:=j) (by omega);simpa using this
theorem qdu {W W0:World} {n p:Nat} {L:List Nat} {m k:Nat} (h:Own W W0.heap.size 1 (.slice (some ⟨p,0,none⟩) n n) n (qaA L)) (hL:L.length=n) (hn:n≤1000000000) (hk:n≤k) (hok: ∀x∈L,x<4294967296) (hv:qab 4294967296 L=m):
  Calls prog 182 #[.slice (some ⟨p,0,none⟩) n n] W fun e w'=> ∃v,e=.returned v∧qb7 w' v m k∧w'=W:=by
 subst hL;refine(qjm (some ⟨p,0,none⟩) L.length L W hn (Nat.le_refl _) h.row hok).mono ?_;rintro e w' ⟨j,rfl,hj,hd,rfl⟩;refine⟨_,rfl,⟨some ⟨p,0,none⟩,L.length,L.take j,?_,?_,?_,?_,?_⟩,rfl⟩
 ·rw [List.length_take,Nat.min_eq_left hj]
 ·rw [List.length_take];omega
 ·rw [List.length_take];omega
 ·rw [qh5];exact h.row.take j
 ·rw [←hv];exact hd
theorem qfv {W:World} {base p i n:Nat} {D:List Nat} (h:Own W base 1 (.slice (some ⟨p,0,none⟩) (n+1) (n+1)) (n+1) (qaA (D++List.replicate (n+1-i) 0))) (hD:D.length=i) (hi:i<n+1) (x:Nat):
  Own (W.setCell ⟨p,i,none⟩ (.int .u32 (x:Int))) base 1 (.slice (some ⟨p,0,none⟩) (n+1) (n+1)) (n+1) (qaA ((D++[x])++List.replicate (n+1-(i+1)) 0)):=by
 have h1:=Own.lay h (j:=i) hi x;rw[show n+1-i=(n+1-(i+1))+1 by omega,←hD,qjl,hD]at h1;exact h1
theorem qlF {W:World} {base p n cy:Nat} {D:List Nat} (h:Own W base 1 (.slice (some ⟨p,0,none⟩) (n+1) (n+1)) (n+1) (qaA (D++List.replicate (n+1-n) 0))) (hD:D.length=n):
  Own (W.setCell ⟨p,n,none⟩ (.int .u32 (cy:Int))) base 1 (.slice (some ⟨p,0,none⟩) (n+1) (n+1)) (n+1) (qaA (D++[cy])):=by
 have h1:=qfv h hD (by omega) cy;rw[Nat.sub_self]at h1;simpa using h1
theorem qda {D:List Nat} (h: ∀z∈D,z<4294967296) {x:Nat} (hx:x<4294967296): ∀z∈D++[x],z<4294967296:=by
 intro z hz;rcases List.mem_append.1 hz with hz|hz
 ·exact h z hz
 ·rw [List.mem_singleton.1 hz];exact hx
theorem qlJ {D l l':List Nat} {cy n x y:Nat} (h:qab 4294967296 D+cy*4294967296 ^ D.length=qab 4294967296 (l.take n)+qab 4294967296 (l'.take n)) (hl:n=l.length) (hx:qab 4294967296 l=x) (hl':l'.length≤n) (hy:qab 4294967296 l'=y):qab 4294967296 (D++[cy])=x+y:=by
 rw[qby,Nat.mul_comm,h,List.take_of_length_le (by omega),List.take_of_length_le hl',hx,hy]
theorem qjB {D l l':List Nat} {cy i a b:Nat} (hD:D.length=i) (h:(∀z∈D,z<4294967296)∧qab 4294967296 D+cy*4294967296 ^ D.length=qab 4294967296 (l.take i)+qab 4294967296 (l'.take i)) (ha:l[i]? =some a) (hb:l'[i]? =some b):
  qab 4294967296 (D++[(cy+(a+b)) % 4294967296])+(cy+(a+b)) / 4294967296*4294967296 ^ (D++[(cy+(a+b)) % 4294967296]).length=qab 4294967296 (l.take (i+1))+qab 4294967296 (l'.take (i+1)):=by
 have h1:=qev D cy (a+b) _ h.2;rw[qap l i a ha,qap l' i b hb];rw[List.length_append,List.length_singleton,h1,hD,Nat.mul_add];omega
theorem qhP {D l l':List Nat} {cy i a:Nat} (hD:D.length=i) (h:(∀z∈D,z<4294967296)∧qab 4294967296 D+cy*4294967296 ^ D.length=qab 4294967296 (l.take i)+qab 4294967296 (l'.take i)) (ha:l[i]? =some a) (hb:l'.length≤i):
  qab 4294967296 (D++[(cy+a) % 4294967296])+(cy+a) / 4294967296*4294967296 ^ (D++[(cy+a) % 4294967296]).length=qab 4294967296 (l.take (i+1))+qab 4294967296 (l'.take (i+1)):=by
 have h1:=qev D cy a _ h.2;rw[qap l i a ha,List.take_of_length_le (show l'.length≤i+1 by omega)];rw[List.take_of_length_le hb]at h1;rw[List.length_append,List.length_singleton,h1,hD];omega
set_option maxRecDepth 100000 in
set_option maxHeartbeats 1600000 in
theorem qnf (A A':Option Addr) (c c':Nat) (l l':List Nat) (x y:Nat) (w:World) (hl:l.length≤100000000) (hl':l'.length≤100000000) (hr:Row w A (qaA l)) (hr':Row w A' (qaA l')) (hd:D32 l x) (hd':D32 l' y):
  Calls prog 170 #[.slice A l.length c,.slice A' l'.length c'] w fun e w'=> ∃v,e=.returned v∧qb7 w' v (x+y) (max l.length l'.length+1)∧Kept w w':=by
 have HR:=qh hr;have HR':=qh hr';have HD:=qh hd;have HD':=qh hd';clear hr hr' hd hd';by_cases h:l.length<l'.length
 ·rw [show max l.length l'.length=l'.length by omega]
  have hn9:=hl';clear hl hl';go_enter func170,ntmps170
  obtain⟨n,hn⟩: ∃n,n=l'.length:=⟨_,rfl⟩
  obtain⟨k,hk⟩: ∃k,k=l.length:=⟨_,rfl⟩
  rw[←hn,←hk]at h;rw[←hn]at hn9;rw[←hn,←hk];have HN:=qh (And.intro hn hk);clear hn hk
  have mk: ∀W,(Instr.makeSlice 229 (.int .i64 ((n:Int)+1)) (.int .i64 ((n:Int)+1))).run prog W=.ok (.slice (some ⟨W.heap.size,0,none⟩) (n+1) (n+1)) (W.alloc (.cells (qaA (List.replicate (n+1) 0)).toArray 253)):=fun W=>by
   have:=qdG (n+1) (by omega) W;simpa using this
  go_upto_region 4 with fail
  have HO:=qh (qex w (n+1) (by omega));have HK:=qh (show Kept w (w.alloc (.cells (qaA (List.replicate (n+1) 0)).toArray 253))from(Below.refl _ _).alloc (Nat.le_refl _) _);generalize(w.alloc (.cells (qaA (List.replicate (n+1) 0)).toArray 253))=W1 at *;clear mk;go_wp2_with fail
  go_loopg [6,7,21] n (fun gh v6 v7 v21 wr=> ∃(i cy:Nat) (D:List Nat),i+gh=n∧v21=.int .i64 i∧v6=.int .u64 cy∧D.length=i∧(∀z∈D,z<4294967296)∧cy≤1∧qab 4294967296 D+cy*4294967296 ^ D.length=qab 4294967296 (l'.take i)+qab 4294967296 (l.take i)∧
   Own wr w.heap.size 1 (.slice (some ⟨w.heap.size,0,none⟩) (n+1) (n+1)) (n+1) (qaA (D++List.replicate (n+1-i) 0))∧Kept w wr)
  case atStart=>exact⟨0,0,[],by omega,rfl,rfl,rfl,by simp,by omega,by simp[qab],HO.out,HK.out⟩
  case round=>
   obtain⟨i,cy,D,hig,rfl,rfl,hDl,hDo,hcy,hv,ho,hk⟩:=hrel;cases gk with
   |zero=>
    obtain rfl:n=i:=by omega
    have HV:=qh (And.intro hDl (And.intro hDo (And.intro hcy hv)));have HOW:=qh ho;have HKR:=qh hk;obtain⟨⟨u0,c0⟩,f0⟩:=ho.free (j:=n) (by omega);clear hv ho hk hDo hDl;go_wp2_with (go_at_call 182;refine(qdu (W0:=w) (m:=y+x) (k:=n+1) (L:=D++[cy]) (qlF HOW.out HV.out.1) (by simp[HV.out.1]) (by omega) (Nat.le_refl _) (qda HV.out.2.1 (show cy<4294967296 by omega)) (qlJ HV.out.2.2.2 HN.out.1 HD'.out.val (by have:=HN.out.2;omega) HD.out.val)).mono ?_;rintro e w9 ⟨v9,rfl,hd9,rfl⟩)
    go_ret
    exact⟨v9,rfl,by rw[Nat.add_comm];exact hd9,HKR.out.setCell (p:=⟨w.heap.size,n,none⟩) (Nat.le_refl _) _⟩
   |succ gh=>
    obtain⟨a,ha⟩: ∃x,l'[i]? =some x:=⟨_,List.getElem?_eq_getElem (by have:=HN.out.1;omega)⟩
    have hab:=HD'.out.ok a (List.mem_of_getElem? ha);obtain⟨ba,oa,rfl,ca⟩:=qbO (HR'.out.kept hk) ha;have HAA:=qh ha;have hin:(i:Int)<n:=by omega
    have HKR:=qh hk;have HOW:=qh ho;have HV:=qh (And.intro hDl (And.intro hDo hv));obtain⟨⟨u0,c0⟩,f0⟩:=ho.free (j:=i) (by omega);clear hv ho hk ha hDo hDl;by_cases hik:i<k
    ·obtain⟨b,hb⟩: ∃x,l[i]? =some x:=⟨_,List.getElem?_eq_getElem (by have:=HN.out.2;omega)⟩
     have hbb:=HD.out.ok b (List.mem_of_getElem? hb);obtain⟨bb,ob,rfl,cb⟩:=qbO (HR.out.kept HKR.out) hb;have HBB:=qh hb;have hik2:(i:Int)<k:=by omega
     clear hb;go_wp2_with fail
     go_roundg gh
     case measure=>omega
     case rel=>
      have e1:((cy:Int)+a+b) % 4294967296=(((cy+(a+b)) % 4294967296:Nat):Int):=by omega
      rw[e1];exact⟨i+1,(cy+(a+b)) / 4294967296,D++[(cy+(a+b)) % 4294967296],by omega,by go_num,by first|rfl|(congr 1;omega),by simp[HV.out.1],qda HV.out.2.1 (Nat.mod_lt _ (by omega)),by omega,qjB HV.out.1 HV.out.2 HAA.out HBB.out,qfv HOW.out HV.out.1 (by omega) _,HKR.out.setCell (p:=⟨w.heap.size,i,none⟩) (Nat.le_refl _) _⟩
    ·have hik2: ¬(i:Int)<k:=by omega
     go_wp2_with fail
     go_roundg gh
     case measure=>omega
     case rel=>
      have e1:((cy:Int)+a) % 4294967296=(((cy+a) % 4294967296:Nat):Int):=by omega
      rw[e1];exact⟨i+1,(cy+a) / 4294967296,D++[(cy+a) % 4294967296],by omega,by go_num,by first|rfl|(congr 1;omega),by simp[HV.out.1],qda HV.out.2.1 (Nat.mod_lt _ (by omega)),by omega,qhP HV.out.1 HV.out.2 HAA.out (by have:=HN.out.2;omega),qfv HOW.out HV.out.1 (by omega) _,HKR.out.setCell (p:=⟨w.heap.size,i,none⟩) (Nat.le_refl _) _⟩
 ·rw [show max l.length l'.length=l.length by omega]
  have hn9:=hl;clear hl hl';go_enter func170,ntmps170
  obtain⟨n,hn⟩: ∃n,n=l.length:=⟨_,rfl⟩
  obtain⟨k,hk⟩: ∃k,k=l'.length:=⟨_,rfl⟩
  rw[←hn,←hk]at h;rw[←hn]at hn9;rw[←hn,←hk];have HN:=qh (And.intro hn hk);clear hn hk
  have mk: ∀W,(Instr.makeSlice 229 (.int .i64 ((n:Int)+1)) (.int .i64 ((n:Int)+1))).run prog W=.ok (.slice (some ⟨W.heap.size,0,none⟩) (n+1) (n+1)) (W.alloc (.cells (qaA (List.replicate (n+1) 0)).toArray 253)):=fun W=>by
   have:=qdG (n+1) (by omega) W;simpa using this
  go_upto_region 4 with fail
  have HO:=qh (qex w (n+1) (by omega));have HK:=qh (show Kept w (w.alloc (.cells (qaA (List.replicate (n+1) 0)).toArray 253))from(Below.refl _ _).alloc (Nat.le_refl _) _);generalize(w.alloc (.cells (qaA (List.replicate (n+1) 0)).toArray 253))=W1 at *;clear mk;go_wp2_with fail
  go_loopg [6,7,21] n (fun gh v6 v7 v21 wr=> ∃(i cy:Nat) (D:List Nat),i+gh=n∧v21=.int .i64 i∧v6=.int .u64 cy∧D.length=i∧(∀z∈D,z<4294967296)∧cy≤1∧qab 4294967296 D+cy*4294967296 ^ D.length=qab 4294967296 (l.take i)+qab 4294967296 (l'.take i)∧
   Own wr w.heap.size 1 (.slice (some ⟨w.heap.size,0,none⟩) (n+1) (n+1)) (n+1) (qaA (D++List.replicate (n+1-i) 0))∧Kept w wr)
  case atStart=>exact⟨0,0,[],by omega,rfl,rfl,rfl,by simp,by omega,by simp[qab],HO.out,HK.out⟩
  case round=>
   obtain⟨i,cy,D,hig,rfl,rfl,hDl,hDo,hcy,hv,ho,hk⟩:=hrel;cases gk with
   |zero=>
    obtain rfl:n=i:=by omega
    have HV:=qh (And.intro hDl (And.intro hDo (And.intro hcy hv)));have HOW:=qh ho;have HKR:=qh hk;obtain⟨⟨u0,c0⟩,f0⟩:=ho.free (j:=n) (by omega);clear hv ho hk hDo hDl;go_wp2_with (go_at_call 182;refine(qdu (W0:=w) (m:=x+y) (k:=n+1) (L:=D++[cy]) (qlF HOW.out HV.out.1) (by simp[HV.out.1]) (by omega) (Nat.le_refl _) (qda HV.out.2.1 (show cy<4294967296 by omega)) (qlJ HV.out.2.2.2 HN.out.1 HD.out.val (by have:=HN.out.2;omega) HD'.out.val)).mono ?_;rintro e w9 ⟨v9,rfl,hd9,rfl⟩)
    go_ret
    exact⟨v9,rfl,hd9,HKR.out.setCell (p:=⟨w.heap.size,n,none⟩) (Nat.le_refl _) _⟩
   |succ gh=>
    obtain⟨a,ha⟩: ∃x,l[i]? =some x:=⟨_,List.getElem?_eq_getElem (by have:=HN.out.1;omega)⟩
    have hab:=HD.out.ok a (List.mem_of_getElem? ha);obtain⟨ba,oa,rfl,ca⟩:=qbO (HR.out.kept hk) ha;have HAA:=qh ha;have hin:(i:Int)<n:=by omega
    have HKR:=qh hk;have HOW:=qh ho;have HV:=qh (And.intro hDl (And.intro hDo hv));obtain⟨⟨u0,c0⟩,f0⟩:=ho.free (j:=i) (by omega);clear hv ho hk ha hDo hDl;by_cases hik:i<k
    ·obtain⟨b,hb⟩: ∃x,l'[i]? =some x:=⟨_,List.getElem?_eq_getElem (by have:=HN.out.2;omega)⟩
     have hbb:=HD'.out.ok b (List.mem_of_getElem? hb);obtain⟨bb,ob,rfl,cb⟩:=qbO (HR'.out.kept HKR.out) hb;have HBB:=qh hb;have hik2:(i:Int)<k:=by omega
     clear hb;go_wp2_with fail
     go_roundg gh
     case measure=>omega
     case rel=>
      have e1:((cy:Int)+a+b) % 4294967296=(((cy+(a+b)) % 4294967296:Nat):Int):=by omega
      rw[e1];exact⟨i+1,(cy+(a+b)) / 4294967296,D++[(cy+(a+b)) % 4294967296],by omega,by go_num,by first|rfl|(congr 1;omega),by simp[HV.out.1],qda HV.out.2.1 (Nat.mod_lt _ (by omega)),by omega,qjB HV.out.1 HV.out.2 HAA.out HBB.out,qfv HOW.out HV.out.1 (by omega) _,HKR.out.setCell (p:=⟨w.heap.size,i,none⟩) (Nat.le_refl _) _⟩
    ·have hik2: ¬(i:Int)<k:=by omega
     go_wp2_with fail
     go_roundg gh
     case measure=>omega
     case rel=>
      have e1:((cy:Int)+a) % 4294967296=(((cy+a) % 4294967296:Nat):Int):=by omega
      rw[e1];exact⟨i+1,(cy+a) / 4294967296,D++[(cy+a) % 4294967296],by omega,by go_num,by first|rfl|(congr 1;omega),by simp[HV.out.1],qda HV.out.2.1 (Nat.mod_lt _ (by omega)),by omega,qhP HV.out.1 HV.out.2 HAA.out (by have:=HN.out.2;omega),qfv HOW.out HV.out.1 (by omega) _,HKR.out.setCell (p:=⟨w.heap.size,i,none⟩) (Nat.le_refl _) _⟩
theorem qfD {W:World} {base p i N:Nat} {D:List Nat} (h:Own W base 1 (.slice (some ⟨p,0,none⟩) N N) N (qaA (D++List.replicate (N-i) 0))) (hD:D.length=i) (hi:i<N) (x:Nat):
  Own (W.setCell ⟨p,i,none⟩ (.int .u32 (x:Int))) base 1 (.slice (some ⟨p,0,none⟩) N N) N (qaA ((D++[x])++List.replicate (N-(i+1)) 0)):=by
 have h1:=Own.lay h (j:=i) hi x;rw[show N-i=(N-(i+1))+1 by omega,←hD,qjl,hD]at h1;exact h1
theorem qjO {W:World} {base p N:Nat} {D:List Nat} (h:Own W base 1 (.slice (some ⟨p,0,none⟩) N N) N (qaA (D++List.replicate (N-N) 0))):Own W base 1 (.slice (some ⟨p,0,none⟩) N N) N (qaA D):=by
 rw[Nat.sub_self]at h;simpa using h
theorem qiW {D l l':List Nat} {cy i a b x cz:Nat} (hD:D.length=i) (h:(∀z∈D,z<4294967296)∧qab 4294967296 D+qab 4294967296 (l'.take i)=qab 4294967296 (l.take i)+cy*4294967296 ^ D.length) (ha:l[i]? =some a) (hb:qab 4294967296 (l'.take (i+1))=qab 4294967296 (l'.take i)+4294967296 ^ i*b) (hx:x+b+cy=a+cz*4294967296):
  qab 4294967296 (D++[x])+qab 4294967296 (l'.take (i+1))=qab 4294967296 (l.take (i+1))+cz*4294967296 ^ (D++[x]).length:=by
 rw[qap l i a ha,hb,qby,hD,List.length_append,List.length_singleton,hD,Nat.pow_succ];have h2:=h.2;rw[hD]at h2;have h3:4294967296 ^ i*(x+b+cy)=4294967296 ^ i*(a+cz*4294967296):=by rw[hx]
 rw[Nat.mul_add,Nat.mul_add,Nat.mul_add,Nat.mul_comm _ cy]at h3;have h4:cz*(4294967296 ^ i*4294967296)=4294967296 ^ i*(cz*4294967296):=by rw[←Nat.mul_assoc,Nat.mul_comm cz,Nat.mul_assoc]
 omega
theorem qo1 {D l l':List Nat} {cy n x y:Nat} (hD:D.length=n) (h:(∀z∈D,z<4294967296)∧qab 4294967296 D+qab 4294967296 (l'.take n)=qab 4294967296 (l.take n)+cy*4294967296 ^ D.length) (hl:n=l.length) (hx:qab 4294967296 l=x) (hl':l'.length≤n) (hy:qab 4294967296 l'=y) (hxy:y≤x):qab 4294967296 D=x-y:=by
 have h1:=h.2;rw[List.take_of_length_le hl',List.take_of_length_le (show l.length≤n by omega),hx,hy]at h1;have h2:=qcn D h.1;rcases Nat.eq_zero_or_pos cy with rfl|hc
 ·omega
 ·have:4294967296 ^ D.length*1≤cy*4294967296 ^ D.length:=by rw[Nat.mul_comm];exact Nat.mul_le_mul_right _ hc
  omega
set_option maxRecDepth 100000 in
set_option maxHeartbeats 1600000 in
theorem qh3 (A A':Option Addr) (c c':Nat) (l l':List Nat) (x y:Nat) (w:World) (hl:l.length≤100000000) (hr:Row w A (qaA l)) (hr':Row w A' (qaA l')) (hd:D32 l x) (hd':D32 l' y) (hxy:y≤x):
  Calls prog 171 #[.slice A l.length c,.slice A' l'.length c'] w fun e w'=> ∃v,e=.returned v∧qb7 w' v (x-y) l.length∧Kept w w':=by
 have hll:l'.length≤l.length:=by
  rcases Nat.lt_or_ge l.length l'.length with h|h
  ·have:=hd.qdo hd' (by omega) h;omega
  ·exact h
 have HR:=qh hr;have HR':=qh hr';have HD:=qh hd;have HD':=qh hd';clear hr hr' hd hd';go_enter func171,ntmps171
 obtain⟨n,hn⟩: ∃n,n=l.length:=⟨_,rfl⟩
 obtain⟨k,hk⟩: ∃k,k=l'.length:=⟨_,rfl⟩
 rw[←hn,←hk]at hll;rw[←hn]at hl;rw[←hn,←hk];have HN:=qh (And.intro hn hk);clear hn hk;have mk:=qdG n (by omega);go_upto_region 2 with fail
 have HO:=qh (qex w n (by omega));have HK:=qh (show Kept w (w.alloc (.cells (qaA (List.replicate n 0)).toArray 253))from(Below.refl _ _).alloc (Nat.le_refl _) _);generalize(w.alloc (.cells (qaA (List.replicate n 0)).toArray 253))=W1 at *;clear mk;go_wp2_with fail
 go_loopg [6,7,8,14] n (fun gh v6 v7 v8 v14 wr=> ∃(i cy:Nat) (D:List Nat),i+gh=n∧v14=.int .i64 i∧v6=.int .u64 cy∧D.length=i∧(∀z∈D,z<4294967296)∧cy≤1∧qab 4294967296 D+qab 4294967296 (l'.take i)=qab 4294967296 (l.take i)+cy*4294967296 ^ D.length∧
  Own wr w.heap.size 1 (.slice (some ⟨w.heap.size,0,none⟩) n n) n (qaA (D++List.replicate (n-i) 0))∧Kept w wr)
 case atStart=>exact⟨0,0,[],by omega,rfl,rfl,rfl,by simp,by omega,by simp[qab],HO.out,HK.out⟩
 case round=>
  obtain⟨i,cy,D,hig,rfl,rfl,hDl,hDo,hcy,hv,ho,hk⟩:=hrel;cases gk with
  |zero=>
   obtain rfl:n=i:=by omega
   have HV:=qh (And.intro hDl (And.intro hDo hv));have HOW:=qh ho;have HKR:=qh hk;clear hv ho hk hDo hDl;go_wp2_with (go_at_call 182;refine(qdu (W0:=w) (m:=x-y) (k:=n) (L:=D) (qjO HOW.out) HV.out.1 (by omega) (Nat.le_refl _) HV.out.2.1 (qo1 HV.out.1 HV.out.2 HN.out.1 HD.out.val (by have:=HN.out.2;omega) HD'.out.val hxy)).mono ?_;rintro e w9 ⟨v9,rfl,hd9,rfl⟩)
   go_ret
   exact⟨v9,rfl,hd9,HKR.out⟩
  |succ gh=>
   obtain⟨a,ha⟩: ∃x,l[i]? =some x:=⟨_,List.getElem?_eq_getElem (by have:=HN.out.1;omega)⟩
   have hab:=HD.out.ok a (List.mem_of_getElem? ha);obtain⟨ba,oa,rfl,ca⟩:=qbO (HR.out.kept hk) ha;have HAA:=qh ha;have hin:(i:Int)<n:=by omega
   have HKR:=qh hk;have HOW:=qh ho;have HV:=qh (And.intro hDl (And.intro hDo hv));obtain⟨⟨u0,c0⟩,f0⟩:=ho.free (j:=i) (by omega);obtain⟨t1,ht1⟩: ∃t,t=(a+18446744073709551616-cy) % 18446744073709551616:=⟨_,rfl⟩
   have E1:=qh ht1;have e1:IntKind.u64.wrap ((a:Int)-cy)=(t1:Int):=by rw[IntKind.wrap_u64];omega
   have hcy9:=hcy;clear hv ho hk ha hDo hDl ht1 hcy;by_cases hik:i<k
   ·obtain⟨b,hb⟩: ∃x,l'[i]? =some x:=⟨_,List.getElem?_eq_getElem (by have:=HN.out.2;omega)⟩
    have hbb:=HD'.out.ok b (List.mem_of_getElem? hb);obtain⟨bb,ob,rfl,cb⟩:=qbO (HR'.out.kept HKR.out) hb;have HBB:=qh hb;have hik2:(i:Int)<k:=by omega
    obtain⟨t2,ht2⟩: ∃t,t=(t1+18446744073709551616-b) % 18446744073709551616:=⟨_,rfl⟩
    have E2:=qh ht2;have hb1:t1<18446744073709551616:=by have:=E1.out;omega
    have e2:IntKind.u64.wrap ((t1:Int)-b)=(t2:Int):=by rw[IntKind.wrap_u64];omega
    have hb2:t2<18446744073709551616:=by omega
    clear hb ht2;go_wp2_with fail
    go_roundg gh
    case measure=>omega
    case rel=>
     have e1:(t2:Int) % 4294967296=((t2 % 4294967296:Nat):Int):=by omega
     rw[e1];exact⟨i+1,t2 / 9223372036854775808,D++[t2 % 4294967296],by omega,by go_num,rfl,by simp[HV.out.1],qda HV.out.2.1 (Nat.mod_lt _ (by omega)),by omega,qiW HV.out.1 HV.out.2 HAA.out (qap l' i b HBB.out) (by have:=E1.out;have:=E2.out;omega),qfD HOW.out HV.out.1 (by omega) _,HKR.out.setCell (p:=⟨w.heap.size,i,none⟩) (Nat.le_refl _) _⟩
   ·have hik2: ¬(i:Int)<k:=by omega
    have hb1:t1<18446744073709551616:=by have:=E1.out;omega
    go_wp2_with fail
    go_roundg gh
    case measure=>omega
    case rel=>
     have e1:(t1:Int) % 4294967296=((t1 % 4294967296:Nat):Int):=by omega
     rw[e1];exact⟨i+1,t1 / 9223372036854775808,D++[t1 % 4294967296],by omega,by go_num,rfl,by simp[HV.out.1],qda HV.out.2.1 (Nat.mod_lt _ (by omega)),by omega,qiW (b:=0) HV.out.1 HV.out.2 HAA.out (by rw[List.take_of_length_le (by have:=HN.out.2;omega),List.take_of_length_le (by have:=HN.out.2;omega)];simp) (by have:=E1.out;omega),qfD HOW.out HV.out.1 (by omega) _,HKR.out.setCell (p:=⟨w.heap.size,i,none⟩) (Nat.le_refl _) _⟩
theorem qpj {P R:List Nat} {a j:Nat} (hj:P.length=j):(P++a::R)[j]? =some a:=by subst hj;simp
theorem qlA {P R:List Nat} {a b j:Nat} (hj:P.length=j):(P++a::R).set j b=P++b::R:=by subst hj;simp
theorem qoO {a cy r:Nat} (ha:a<4294967296) (hr:r<32) (hc:cy<2 ^ r):
  IntKind.u64.wrap ((a:Int)*2 ^ r)=((a*2 ^ r:Nat):Int)∧bits BinOp.or IntKind.u32 (cy:Int) (((a*2 ^ r:Nat):Int) % 4294967296)=(((cy+a*2 ^ r) % 4294967296:Nat):Int)∧
  ((a*2 ^ r:Nat):Int) / 4294967296 % 4294967296=(((cy+a*2 ^ r) / 4294967296:Nat):Int)∧(cy+a*2 ^ r) / 4294967296<2 ^ r:=by
 have hp:2 ^ r≤2 ^ 31:=Nat.pow_le_pow_right (by omega) (by omega);rw[show(2:Nat) ^ 31=2147483648 from rfl]at hp;have hsplit:4294967296=2 ^ (32-r)*2 ^ r:=by rw[←Nat.pow_add,show 32-r+r=32 by omega]
 have hm:a*2 ^ r % 4294967296=(a % 2 ^ (32-r))*2 ^ r:=by
  conv=>lhs;rw[hsplit]
  rw[Nat.mul_mod_mul_right]
 have hlt:a % 2 ^ (32-r)+1≤2 ^ (32-r):=Nat.mod_lt _ (Nat.pow_pos (by omega))
 have hlt2:(a % 2 ^ (32-r))*2 ^ r+2 ^ r≤4294967296:=by
  rw[hsplit,←Nat.succ_mul];exact Nat.mul_le_mul_right _ hlt
 have hor:cy ||| (a*2 ^ r % 4294967296)=cy+a*2 ^ r % 4294967296:=by rw[hm,qeW _ _ _ hc,Nat.add_comm]
 have hbig:a*2 ^ r≤4294967296*2147483648:=Nat.mul_le_mul (by omega) hp
 have hdiv:a*2 ^ r / 4294967296<2 ^ r:=by
  rw[Nat.div_lt_iff_lt_mul (by omega),Nat.mul_comm (2 ^ r)];exact Nat.mul_lt_mul_of_pos_right ha (Nat.pow_pos (by omega))
 rw[←hm]at hlt2;have hw:((a:Int)*2 ^ r)=((a*2 ^ r:Nat):Int):=by simp
 rw[hw];generalize a*2 ^ r=y at *;refine⟨?_,?_,?_,?_⟩
 ·rw [IntKind.wrap_u64];omega
 ·rw [show(y:Int) % 4294967296=((y % 4294967296:Nat):Int) by omega,u32_or_nat _ _ (by omega) (by omega),hor]
  congr 1
  omega
 ·omega
 ·have:(cy+y) / 4294967296=y / 4294967296:=by omega
  rw[this];exact hdiv
theorem left_step {D l:List Nat} {cy i a r:Nat} (hD:D.length=i) (h:qab 4294967296 D+cy*4294967296 ^ D.length=qab 4294967296 (l.take i)*2 ^ r) (ha:l[i]? =some a):
  qab 4294967296 (D++[(cy+a*2 ^ r) % 4294967296])+(cy+a*2 ^ r) / 4294967296*4294967296 ^ (D++[(cy+a*2 ^ r) % 4294967296]).length=qab 4294967296 (l.take (i+1))*2 ^ r:=by
 rw[List.length_append,List.length_singleton,qev D cy (a*2 ^ r) _ h,qap l i a ha,hD,Nat.add_mul,Nat.mul_assoc]
theorem qoK {W:World} {base p q i n N cy:Nat} {D:List Nat} (h:Own W base 1 (.slice (some ⟨p,0,none⟩) N N) N (qaA ((List.replicate q 0++D)++cy::List.replicate (n-i) 0))) (hD:D.length=i) (hi:i<n) (hN:n+q+1=N) (d cz:Nat):
  Own ((W.setCell ⟨p,i+q,none⟩ (.int .u32 (d:Int))).setCell ⟨p,i+q+1,none⟩ (.int .u32 (cz:Int))) base 1 (.slice (some ⟨p,0,none⟩) N N) N (qaA ((List.replicate q 0++(D++[d]))++cz::List.replicate (n-(i+1)) 0)):=by
 have h1:=(Own.lay h (j:=i+q) (by omega) d).lay (j:=i+q+1) (by omega) cz;rw[qlA (by simp[hD,Nat.add_comm]),show n-i=(n-(i+1))+1 by omega,List.replicate_succ,List.append_cons,qlA (by simp[hD];omega)]at h1;simpa [List.append_assoc] using h1
theorem qns {W:World} {base p q n N cy x s r:Nat} {D l:List Nat} (h:Own W base 1 (.slice (some ⟨p,0,none⟩) N N) N (qaA ((List.replicate q 0++D)++cy::List.replicate (n-n) 0))) (hD:D.length=n) (hv:qab 4294967296 D+cy*4294967296 ^ D.length=qab 4294967296 (l.take n)*2 ^ r) (hl:n=l.length) (hx:qab 4294967296 l=x) (hq:q=s / 32∧r=s % 32):
  Own W base 1 (.slice (some ⟨p,0,none⟩) N N) N (qaA (List.replicate q 0++(D++[cy])))∧qab 4294967296 (List.replicate q 0++(D++[cy]))=x*2 ^ s:=by
 rw[Nat.sub_self,List.replicate_zero]at h;refine⟨by simpa [List.append_assoc] using h,?_⟩;rw[qcU,qcJ,qby,Nat.zero_add,List.length_replicate,Nat.mul_comm (4294967296 ^ D.length),hv,List.take_of_length_le (by omega),hx];rw[show(4294967296:Nat)=2 ^ 32 from rfl,←Nat.pow_mul,Nat.mul_comm,Nat.mul_assoc,←Nat.pow_add];congr 2
 omega
set_option maxRecDepth 100000 in
set_option maxHeartbeats 1600000 in
theorem qmY (A:Option Addr) (c:Nat) (l:List Nat) (x s:Nat) (w:World) (hl:l.length≤100000000) (hs:s≤1000000000) (hr:Row w A (qaA l)) (hd:D32 l x):
  Calls prog 153 #[.slice A l.length c,.int .u64 (s:Int)] w fun e w'=> ∃v,e=.returned v∧qb7 w' v (x*2 ^ s) (l.length+s / 32+1)∧Kept w w':=by
 have HR:=qh hr;have HD:=qh hd;clear hr hd;obtain⟨n,hn⟩: ∃n,n=l.length:=⟨_,rfl⟩
 obtain⟨q,hq⟩: ∃q,q=s / 32:=⟨_,rfl⟩
 obtain⟨r,hr⟩: ∃r,r=s % 32:=⟨_,rfl⟩
 rw[←hn]at hl;rw[←hn,←hq];have HN:=qh hn;have HQ:=qh (And.intro hq hr);have eq1:(s:Int) / 32=q:=by omega
 have eq2:(s:Int) % 32=r:=by omega
 have hr9:r<32:=by omega
 have hq9:q≤1000000000:=by omega
 clear hn hq hr;by_cases h0:n=0
 ·subst h0
  go_enter func153,ntmps153
  go_wp2_with fail
  go_ret
  refine⟨_,rfl,⟨none,0,[],rfl,by simp,by simp,.inl rfl,?_⟩,?_⟩
  ·have h1:l=[]:=List.eq_nil_of_length_eq_zero HN.out.symm
   rw[(HD.out.qci (by omega)).1 h1,Nat.zero_mul];exact Dig.nil
  ·exact Below.refl _ _
 ·have h1: ¬(n:Int)=0:=by omega
  have mk: ∀W,(Instr.makeSlice 229 (.int .i64 ((n:Int)+q+1)) (.int .i64 ((n:Int)+q+1))).run prog W=.ok (.slice (some ⟨W.heap.size,0,none⟩) (n+q+1) (n+q+1)) (W.alloc (.cells (qaA (List.replicate (n+q+1) 0)).toArray 253)):=fun W=>by
   have:=qdG (n+q+1) (by omega) W;simpa using this
  go_enter func153,ntmps153
  go_upto_region 4 with fail
  have HO:=qh (qex w (n+q+1) (by omega));have HK:=qh (show Kept w (w.alloc (.cells (qaA (List.replicate (n+q+1) 0)).toArray 253))from(Below.refl _ _).alloc (Nat.le_refl _) _);generalize(w.alloc (.cells (qaA (List.replicate (n+q+1) 0)).toArray 253))=W1 at *;clear mk;go_wp2_with fail
  go_loopg [6,7,8,22] n (fun gh v6 v7 v8 v22 wr=> ∃(i cy:Nat) (D:List Nat),i+gh=n∧v22=.int .i64 i∧D.length=i∧(∀z∈D,z<4294967296)∧cy<2 ^ r∧qab 4294967296 D+cy*4294967296 ^ D.length=qab 4294967296 (l.take i)*2 ^ r∧
   Own wr w.heap.size 1 (.slice (some ⟨w.heap.size,0,none⟩) (n+q+1) (n+q+1)) (n+q+1) (qaA ((List.replicate q 0++D)++cy::List.replicate (n-i) 0))∧Kept w wr)
  case atStart=>exact⟨0,0,[],by omega,rfl,rfl,by simp,Nat.pow_pos (by omega),by simp[qab],by rw[List.append_nil,←List.replicate_succ,List.replicate_append_replicate];simpa [Nat.add_comm,Nat.add_left_comm,Nat.add_assoc] using HO.out,HK.out⟩
  case round=>
   obtain⟨i,cy,D,hig,rfl,hDl,hDo,hcy,hv,ho,hk⟩:=hrel;cases gk with
   |zero=>
    obtain rfl:n=i:=by omega
    have HV:=qh (qns ho hDl hv HN.out HD.out.val HQ.out);have HZ:=qh (And.intro hDl (And.intro hDo (show cy<4294967296 by have:2 ^ r≤2 ^ 31:=Nat.pow_le_pow_right (by omega) (by omega);omega)));have HKR:=qh hk;clear hv ho hk hDo hDl hcy;go_wp2_with (go_at_call 182;refine(qdu (W0:=w) (m:=x*2 ^ s) (k:=n+q+1) (L:=List.replicate q 0++(D++[cy])) HV.out.1 (by simp[HZ.out.1];omega) (by omega) (Nat.le_refl _) (fun z hz=>(List.mem_append.1 hz).elim (fun hz=>by rw[(List.mem_replicate.1 hz).2];omega) (qda HZ.out.2.1 HZ.out.2.2 z)) HV.out.2).mono ?_;rintro e w9 ⟨v9,rfl,hd9,rfl⟩)
    go_ret
    exact⟨v9,rfl,hd9,HKR.out⟩
   |succ gh=>
    obtain⟨a,ha⟩: ∃x,l[i]? =some x:=⟨_,List.getElem?_eq_getElem (by have:=HN.out;omega)⟩
    have hab:=HD.out.ok a (List.mem_of_getElem? ha);obtain⟨ba,oa,rfl,ca⟩:=qbO (HR.out.kept hk) ha;have HAA:=qh ha;have hin:(i:Int)<n:=by omega
    have HKR:=qh hk;have HOW:=qh ho;have HV:=qh (And.intro hDl (And.intro hDo (And.intro hcy hv)));have c0:=ho.qdv (j:=i+q) (x:=cy) (qpj (by simp[hDl,Nat.add_comm]));obtain⟨-,f0⟩:=ho.free (j:=i+q) (by omega);obtain⟨⟨u1,c1⟩,f1⟩:=ho.free (j:=i+q+1) (by omega);clear hv ho hk ha hDo hDl hcy;go_wp2_with fail
    go_roundg gh
    case measure=>omega
    case rel=>
     obtain⟨s1,s2,s3,s4⟩:=qoO hab hr9 HV.out.2.2.1;rw[s1,s2,s3];exact⟨i+1,_,_,by omega,by go_num,by simp[HV.out.1],qda HV.out.2.1 (Nat.mod_lt _ (by omega)),s4,left_step HV.out.1 HV.out.2.2.2 HAA.out,qoK HOW.out HV.out.1 (by omega) rfl _ _,(HKR.out.setCell (p:=⟨w.heap.size,i+q,none⟩) (Nat.le_refl _) _).setCell (p:=⟨w.heap.size,i+q+1,none⟩) (Nat.le_refl _) _⟩
theorem qgz {l:List Nat} (hok: ∀x∈l,x<4294967296) {i a b r:Nat} (hr:r<32) (ha:l[i]? =some a) (hb:l[i+1]? =some b∨(l[i+1]? =none∧b=0)):
  qab 4294967296 l / 2 ^ r / 4294967296 ^ i % 4294967296=(a+b*4294967296) / 2 ^ r % 4294967296:=by
 have hi:=(List.getElem?_eq_some_iff.1 ha).1
 have h1:qab 4294967296 l / 4294967296 ^ i=(a+b*4294967296)+2 ^ r*(4294967296*(2 ^ (32-r)*qab 4294967296 (l.drop (i+2)))):=by
  rw[←qeV l (by omega) hok i (by omega),List.drop_eq_getElem_cons hi,qab];rw[List.getElem?_eq_getElem hi]at ha;rw[Option.some.inj ha]
  have h2:qab 4294967296 (l.drop (i+1))=b+4294967296*qab 4294967296 (l.drop (i+2)):=by
   rcases hb with hb|⟨hb,rfl⟩
   ·have hi2:=(List.getElem?_eq_some_iff.1 hb).1
    rw[List.drop_eq_getElem_cons hi2,qab];rw[List.getElem?_eq_getElem hi2]at hb;rw[Option.some.inj hb]
   ·rw [List.drop_eq_nil_of_le (List.getElem?_eq_none_iff.1 hb),List.drop_eq_nil_of_le (Nat.le_trans (List.getElem?_eq_none_iff.1 hb) (Nat.le_succ _))]
    simp[qab]
  have h3:2 ^ r*(4294967296*(2 ^ (32-r)*qab 4294967296 (l.drop (i+2))))=4294967296*(4294967296*qab 4294967296 (l.drop (i+2))):=by
   have h4:2 ^ r*2 ^ (32-r)=4294967296:=by rw[←Nat.pow_add,show r+(32-r)=32 by omega]
   rw[Nat.mul_left_comm,←Nat.mul_assoc (2 ^ r),h4]
  rw[h2,h3,Nat.mul_add,Nat.mul_comm b,Nat.add_assoc]
 rw[Nat.div_div_eq_div_mul,Nat.mul_comm (2 ^ r),←Nat.div_div_eq_div_mul,h1,Nat.add_mul_div_left _ _ (Nat.pow_pos (by omega)),Nat.add_mul_mod_self_left]
theorem right_step {V i:Nat} {D:List Nat} (hD:D.length=i) (h:qab 4294967296 D=V % 4294967296 ^ i):qab 4294967296 (D++[V / 4294967296 ^ i % 4294967296])=V % 4294967296 ^ (i+1):=by
 rw[qby,h,hD,Nat.pow_succ,Nat.mod_mul]
theorem qg2 {a b:Nat} (ha:a<4294967296) (hb:b<4294967296):bits BinOp.or IntKind.u64 (a:Int) ((b:Int)*4294967296)=((a+b*4294967296:Nat):Int):=by
 rw[show(b:Int)*4294967296=((b*4294967296:Nat):Int) by omega,bits_or_u64_nat _ _ (by omega) (by omega)];have:=qeW b a 32 ha;rw[show(2:Nat) ^ 32=4294967296 from rfl]at this;rw[this,Nat.add_comm]
set_option maxRecDepth 100000 in
set_option maxHeartbeats 1600000 in
theorem qk1 (A:Option Addr) (c:Nat) (l:List Nat) (x s:Nat) (w:World) (hl:l.length≤100000000) (hcl:l.length≤c) (hs:s≤1000000000) (hr:Row w A (qaA l)) (hd:D32 l x):
  Calls prog 186 #[.slice A l.length c,.int .u64 (s:Int)] w fun e w'=> ∃v,e=.returned v∧qb7 w' v (x / 2 ^ s) l.length∧Kept w w':=by
 obtain⟨q,hq⟩: ∃q,q=s / 32:=⟨_,rfl⟩
 obtain⟨r,hr0⟩: ∃r,r=s % 32:=⟨_,rfl⟩
 have eq1:(s:Int) / 32=q:=by omega
 have eq2:(s:Int) % 32=r:=by omega
 have hr9:r<32:=by omega
 have hq9:q≤1000000000:=by omega
 have hpw:2 ^ s=4294967296 ^ q*2 ^ r:=by
  rw[show(4294967296:Nat)=2 ^ 32 from rfl,←Nat.pow_mul,←Nat.pow_add];congr 1
  omega
 have HPW:=qh hpw;clear hq hr0 hpw;by_cases h0:l.length≤q
 ·have hz:=qh (show x / 2 ^ s=0 by
   rw[HPW.out,Nat.div_eq_of_lt];have h1:=hd.lt;have h2:4294967296 ^ l.length≤4294967296 ^ q:=Nat.pow_le_pow_right (by omega) h0;have h3:4294967296 ^ q*1≤4294967296 ^ q*2 ^ r:=Nat.mul_le_mul_left _ (Nat.pow_pos (by omega));omega)
  have hge:(l.length:Int)≤q:=by omega
  clear hr hd;go_enter func186,ntmps186
  go_wp2_with fail
  go_ret
  exact⟨_,rfl,⟨none,0,[],rfl,by simp,by simp,.inl rfl,by rw[hz.out];exact Dig.nil⟩,Below.refl _ _⟩
 ·have hge: ¬(l.length:Int)≤q:=by omega
  obtain⟨m,hm⟩: ∃m,m=l.length-q:=⟨_,rfl⟩
  have hl2:=qh (show(l.drop q).length=m by rw[List.length_drop,hm]);have hrow:=hr.drop q;obtain⟨n,hn⟩: ∃n,n=l.length:=⟨_,rfl⟩
  have HX:=qh (show qab 4294967296 (l.drop q) / 2 ^ r=x / 2 ^ s by rw[HPW.out,qeV l (by omega) hd.ok q (by omega),hd.val,Nat.div_div_eq_div_mul]);have HOK:=qh (show∀z∈l.drop q,z<4294967296 from fun z hz=>hd.ok z (List.mem_of_mem_drop hz))
  have hA: ∃b off,A=some ⟨b,off,none⟩:=by
   rcases hr with h|⟨b,off,hA,-⟩
   ·simp [qaA]at h;subst h;simp at h0
   ·exact⟨b,off,hA⟩
  obtain⟨bq,oq,rfl⟩:=hA;rw[←hn]at hl hcl hm h0 hge⊢;have mk:=qdG m (by omega)
  have HR9:Hid (Row w (some ⟨bq,oq+q,none⟩) (qaA (l.drop q))):=by
   have:qaA (l.drop q)=(qaA l).drop q:=by simp[qaA,List.map_drop]
   rw[this];rw[Option.map_some,qd1]at hrow;exact hrow
  have HM:=qh hm;have hmn:m≤n:=by omega
  clear hr hd hrow hn hm;go_enter func186,ntmps186
  go_upto_region 4 with fail
  rw[←HM.out];go_upto_region 5 with fail
  have HO:=qh (qex w m (by omega));have HK:=qh (show Kept w (w.alloc (.cells (qaA (List.replicate m 0)).toArray 253))from(Below.refl _ _).alloc (Nat.le_refl _) _);generalize(w.alloc (.cells (qaA (List.replicate m 0)).toArray 253))=W1 at *;clear mk;go_wp2_with fail
  go_loopg [6,7,23] m (fun gh v6 v7 v23 wr=> ∃(i:Nat) (D:List Nat),i+gh=m∧v23=.int .i64 i∧D.length=i∧(∀z∈D,z<4294967296)∧qab 4294967296 D=x / 2 ^ s % 4294967296 ^ i∧
   Own wr w.heap.size 1 (.slice (some ⟨w.heap.size,0,none⟩) m m) m (qaA (D++List.replicate (m-i) 0))∧Kept w wr)
  case atStart=>exact⟨0,[],by omega,rfl,rfl,by simp,by rw[Nat.pow_zero,Nat.mod_one];rfl,HO.out,HK.out⟩
  case round=>
   obtain⟨i,D,hig,rfl,hDl,hDo,hv,ho,hk⟩:=hrel;cases gk with
   |zero=>
    obtain rfl:m=i:=by omega
    have HV:=qh (And.intro hDl (And.intro hDo hv));have HOW:=qh ho;have HKR:=qh hk
    have HF:=qh (show qab 4294967296 D=x / 2 ^ s by
     rw[hv,Nat.mod_eq_of_lt];rw[←HX.out];exact Nat.lt_of_le_of_lt (Nat.div_le_self _ _) (by have:=qcn (B:=4294967296) (l.drop q) HOK.out;rwa [hl2.out]at this))
    clear hv ho hk hDo hDl;go_wp2_with (go_at_call 182;refine(qdu (W0:=w) (m:=x / 2 ^ s) (k:=n) (L:=D) (qjO HOW.out) HV.out.1 (by omega) hmn HV.out.2.1 HF.out).mono ?_;rintro e w9 ⟨v9,rfl,hd9,rfl⟩)
    go_ret
    exact⟨v9,rfl,hd9,HKR.out⟩
   |succ gh=>
    obtain⟨a,ha⟩: ∃x,(l.drop q)[i]? =some x:=⟨_,List.getElem?_eq_getElem (by have:=hl2.out;omega)⟩
    have hab:=HOK.out a (List.mem_of_getElem? ha);obtain⟨ba,oa,ea,ca⟩:=qbO (HR9.out.kept hk) ha;cases ea;have HAA:=qh ha;have hin:(i:Int)<m:=by omega
    have HKR:=qh hk;have HOW:=qh ho;have HV:=qh (And.intro hDl (And.intro hDo hv));obtain⟨⟨u0,c0⟩,f0⟩:=ho.free (j:=i) (by omega);clear hv ho hk ha hDo hDl;by_cases hik:i+1<m
    ·obtain⟨b,hb⟩: ∃x,(l.drop q)[i+1]? =some x:=⟨_,List.getElem?_eq_getElem (by have:=hl2.out;omega)⟩
     have hbb:=HOK.out b (List.mem_of_getElem? hb);obtain⟨bb,ob,eb,cb⟩:=qbO (HR9.out.kept HKR.out) hb;cases eb;have HBB:=qh hb;have hik2:(i:Int)+1<m:=by omega
     have e3:=qg2 hab hbb;clear hb;go_wp2_with fail
     go_roundg gh
     case measure=>omega
     case rel=>
      have e1:((a:Int)+b*4294967296) / 2 ^ r % 4294967296=(((a+b*4294967296) / 2 ^ r % 4294967296:Nat):Int):=by simp
      rw[e1,←qgz HOK.out hr9 HAA.out (.inl HBB.out),HX.out];exact⟨i+1,_,by omega,by go_num,by simp[HV.out.1],qda HV.out.2.1 (Nat.mod_lt _ (by omega)),right_step HV.out.1 HV.out.2.2,qfD HOW.out HV.out.1 (by omega) _,HKR.out.setCell (p:=⟨w.heap.size,i,none⟩) (Nat.le_refl _) _⟩
    ·have hik2: ¬(i:Int)+1<m:=by omega
     go_wp2_with fail
     go_roundg gh
     case measure=>omega
     case rel=>
      have e1:(a:Int) / 2 ^ r % 4294967296=(((a+0*4294967296) / 2 ^ r % 4294967296:Nat):Int):=by simp
      rw[e1,←qgz HOK.out hr9 HAA.out (.inr ⟨List.getElem?_eq_none (by have:=hl2.out;omega),rfl⟩),HX.out];exact⟨i+1,_,by omega,by go_num,by simp[HV.out.1],qda HV.out.2.1 (Nat.mod_lt _ (by omega)),right_step HV.out.1 HV.out.2.2,qfD HOW.out HV.out.1 (by omega) _,HKR.out.setCell (p:=⟨w.heap.size,i,none⟩) (Nat.le_refl _) _⟩
section
set_option maxHeartbeats 4000000
set_option maxRecDepth 100000
def qbt (n k:Nat):Prop:=n<2 ^ k∧(k≠0→2 ^ (k-1)≤n)
theorem qbt.uniq {n k j:Nat} (h:qbt n k) (g:qbt n j):k=j:=by
 rcases Nat.lt_trichotomy k j with hkj|rfl|hkj
 ·have h1:=g.2 (by omega)
  have h2:2 ^ k≤2 ^ (j-1):=Nat.pow_le_pow_right (by omega) (by omega);have:=h.1;omega
 ·rfl
 ·have h1:=h.2 (by omega)
  have h2:2 ^ j≤2 ^ (k-1):=Nat.pow_le_pow_right (by omega) (by omega);have:=g.1;omega
theorem qeX :qbt 0 0:=⟨by simp,fun h=>absurd rfl h⟩
theorem qmu {x k:Nat} (h0:x≠0) (h:qbt (x / 2) k):qbt x (1+k):=by
 obtain⟨h1,h2⟩:=h;refine⟨by rw[Nat.add_comm,Nat.pow_succ];omega,fun _=>?_⟩;rw[Nat.add_sub_cancel_left];by_cases hk:k=0
 ·subst hk;simp;omega
 ·have h3:=h2 hk
  obtain⟨j,rfl⟩: ∃j,k=j+1:=⟨k-1,by omega⟩
  rw[Nat.add_sub_cancel]at h3;rw[Nat.pow_succ];omega
theorem qgk (x:Nat) (hx:x<2 ^ 64):qbt x (Lib.bitLen x):=by
 induction x using Nat.strongRecOn with
 |ind x ih=>
  by_cases h0:x=0
  ·subst h0;exact qeX
  ·rw [Lib.bitLen_half x h0 hx]
   exact qmu h0 (ih (x / 2) (by omega) (by omega))
theorem qiU {v t k m:Nat} (hv:v<2 ^ m) (ht:t≠0) (h:qbt t k):qbt (v+2 ^ m*t) (m+k):=by
 have hk:k≠0:=by rintro rfl;have:=h.1;simp at this;omega
 refine⟨?_,fun _=>?_⟩
 ·have h1:2 ^ m*(t+1)≤2 ^ m*2 ^ k:=Nat.mul_le_mul_left _ h.1
  rw[Nat.mul_add,Nat.mul_one,←Nat.pow_add]at h1;omega
 ·have h1:2 ^ m*2 ^ (k-1)≤2 ^ m*t:=Nat.mul_le_mul_left _ (h.2 hk)
  rw[←Nat.pow_add]at h1;rw[show m+k-1=m+(k-1) by omega];omega
theorem qm0 (x:Int) (w:World) (h0:0≤x) (h1:x≤4294967295):
  Calls prog 191 #[.int .u32 x] w fun e w'=>e=.returned (.int .i64 (Lib.bitLen x.toNat))∧w'=w:=by
 obtain⟨k,hk⟩: ∃k,k=Lib.bitLen x.toNat:=⟨_,rfl⟩
 rw[←hk];rcases(show x≤255∨(256≤x∧x≤65535)∨(65536≤x∧x≤16777215)∨16777216≤x by omega)with g|⟨g,g'⟩|⟨g,g'⟩|g
 ·obtain⟨j,hj⟩: ∃j,j=Lib.bitLen (x).toNat:=⟨_,rfl⟩
  have e8:Lib.len8 (x)=(j:Int):=by rw[hj];exact Lib.len8_of (x) (by omega) (by omega)
  have l:=Lib.bitLen_le8' (x) (by omega) (by omega);rw[←hj]at l
  have hkj:k=0+j:=by
   rw[hk,hj];omega
  have a1: ¬(65536≤x):=by omega
  have a2: ¬(256≤x):=by omega
  have a3:x % 256=x:=by omega
  subst hkj;clear hk hj;go_enter func191,ntmps191
  go_wp2
  go_ret
  exact⟨by first|rfl|(congr 2;omega),rfl⟩
 ·obtain⟨j,hj⟩: ∃j,j=Lib.bitLen (x / 256).toNat:=⟨_,rfl⟩
  have e8:Lib.len8 (x / 256)=(j:Int):=by rw[hj];exact Lib.len8_of (x / 256) (by omega) (by omega)
  have l:=Lib.bitLen_le8' (x / 256) (by omega) (by omega);rw[←hj]at l
  have hkj:k=8+j:=by
   rw[hk,hj];have s:=Lib.bitLen_shift8 x.toNat (by omega) (by omega);rw[s];congr 2
   omega
  have a1: ¬(65536≤x):=by omega
  have a3:x / 256 % 256=x / 256:=by omega
  have a4:0≤x / 256:=by omega
  have a5:x / 256≤255:=by omega
  subst hkj;clear hk hj;go_enter func191,ntmps191
  go_wp2
  go_ret
  exact⟨by first|rfl|(congr 2;omega),rfl⟩
 ·obtain⟨j,hj⟩: ∃j,j=Lib.bitLen (x / 65536).toNat:=⟨_,rfl⟩
  have e8:Lib.len8 (x / 65536)=(j:Int):=by rw[hj];exact Lib.len8_of (x / 65536) (by omega) (by omega)
  have l:=Lib.bitLen_le8' (x / 65536) (by omega) (by omega);rw[←hj]at l
  have hkj:k=16+j:=by
   rw[hk,hj];have s:=Lib.bitLen_shift16 x.toNat (by omega) (by omega);rw[s];congr 2
   omega
  have a2: ¬(256≤x / 65536):=by omega
  have a3:x / 65536 % 256=x / 65536:=by omega
  have a4:0≤x / 65536:=by omega
  have a5:x / 65536≤255:=by omega
  subst hkj;clear hk hj;go_enter func191,ntmps191
  go_wp2
  go_ret
  exact⟨by first|rfl|(congr 2;omega),rfl⟩
 ·obtain⟨j,hj⟩: ∃j,j=Lib.bitLen (x / 65536 / 256).toNat:=⟨_,rfl⟩
  have e8:Lib.len8 (x / 65536 / 256)=(j:Int):=by rw[hj];exact Lib.len8_of (x / 65536 / 256) (by omega) (by omega)
  have l:=Lib.bitLen_le8' (x / 65536 / 256) (by omega) (by omega);rw[←hj]at l
  have hkj:k=24+j:=by
   rw[hk,hj];have s:=Lib.bitLen_shift24 x.toNat (by omega) (by omega);rw[s];congr 2
   omega
  have a1:65536≤x:=by omega
  have a2:256≤x / 65536:=by omega
  have a3:x / 65536 / 256 % 256=x / 65536 / 256:=by omega
  have a4:0≤x / 65536 / 256:=by omega
  have a5:x / 65536 / 256≤255:=by omega
  subst hkj;clear hk hj;go_enter func191,ntmps191
  go_wp2
  go_ret
  exact⟨by first|rfl|(congr 2;omega),rfl⟩
theorem qhM (A:Option Addr) (c:Nat) (l:List Nat) (x:Nat) (w:World) (hl:l.length≤100000000) (hr:Row w A (qaA l)) (hd:D32 l x):
  Calls prog 181 #[.slice A l.length c] w fun e w'=> ∃k,e=.returned (.int .i64 (k:Nat))∧qbt x k∧k≤32*l.length∧w'=w:=by
 have HR:=qh hr;have HD:=qh hd;clear hr hd;obtain⟨n,hn⟩: ∃n,n=l.length:=⟨_,rfl⟩
 rw[←hn]at hl⊢;have HN:=qh hn;clear hn;cases n with
 |zero=>
  go_enter func181,ntmps181
  go_wp2_with fail
  go_ret
  refine⟨0,rfl,?_,by omega,rfl⟩;rw[(HD.out.qci (by omega)).1 (List.eq_nil_of_length_eq_zero HN.out.symm)];exact qeX
 |succ m=>
  obtain⟨t,ht⟩: ∃x,l[m]? =some x:=⟨_,List.getElem?_eq_getElem (by have:=HN.out;omega)⟩
  have htb:=HD.out.ok t (List.mem_of_getElem? ht)
  have ht0:=qh (show t≠0 by
   rintro rfl;apply HD.out.top;rw[List.getLast?_eq_getElem?,←HN.out,Nat.add_sub_cancel];exact ht)
  obtain⟨ba,oa,rfl,ca⟩:=qbO HR.out ht;have HT:=qh ht;have HB:=qh (qgk t (by omega));have CL:=qh (fun(W:World)=>qm0 (t:Int) W (by omega) (by omega));obtain⟨k,hk⟩: ∃k,k=Lib.bitLen t:=⟨_,rfl⟩
  rw[Int.toNat_natCast,←hk]at CL;rw[←hk]at HB
  have hk9:k≤32:=by
   rcases Nat.lt_or_ge 32 k with h|h
   ·have h1:=HB.out.2 (by omega)
    have h2:2 ^ 32≤2 ^ (k-1):=Nat.pow_le_pow_right (by omega) (by omega);omega
   ·exact h
  clear ht hk;go_enter func181,ntmps181
  go_wp2_with (go_at_call 191;refine(CL.out _).mono ?_;rintro e w1 ⟨rfl,rfl⟩)
  go_ret
  refine⟨32*m+k,by first|rfl|(congr 2;omega),?_,by omega,rfl⟩
  have h1:=qiU (m:=32*m) (v:=qab 4294967296 (l.take m)) (by
   have:=qcn (B:=4294967296) (l.take m) (fun z hz=>HD.out.ok z (List.mem_of_mem_take hz));rw[List.length_take,Nat.min_eq_left (by have:=HN.out;omega)]at this;rw[Nat.pow_mul];exact this) ht0.out HB.out
  have h2:x=qab 4294967296 (l.take m)+2 ^ (32*m)*t:=by
   rw[←HD.out.val,Nat.pow_mul,show(2:Nat) ^ 32=4294967296 from rfl,←qap l m t HT.out,List.take_of_length_le (by have:=HN.out;omega)]
  rw[h2];exact h1
end
section
set_option maxHeartbeats 4000000
set_option maxRecDepth 100000
def qcq (n k:Nat):Prop:=n % 2 ^ k=0∧n / 2 ^ k % 2=1
theorem qcq.pos {n k:Nat} (h:qcq n k):n≠0:=by rintro rfl;have:=h.2;simp at this
theorem qcq.eq {n k:Nat} (h:qcq n k):n=n / 2 ^ k*2 ^ k:=by
 have:=Nat.div_add_mod n (2 ^ k);rw[h.1,Nat.add_zero,Nat.mul_comm]at this;exact this.symm
theorem qiw {m k:Nat} (h:m % 2=1):qcq (m*2 ^ k) k:=⟨Nat.mul_mod_left _ _,by rw[Nat.mul_div_cancel _ (Nat.pow_pos (by omega))];exact h⟩
theorem qcq.uniq {n k j:Nat} (h:qcq n k) (g:qcq n j):k=j:=by
 have key: ∀a b,qcq n a→qcq n b→¬a<b:=by
  intro a b ha hb hab;have h1:=hb.eq
  have h2:n / 2 ^ a=n / 2 ^ b*2 ^ (b-a):=by
   conv=>lhs;rw[h1]
   rw[show b=(b-a)+a by omega,Nat.pow_add,←Nat.mul_assoc,Nat.mul_div_cancel _ (Nat.pow_pos (by omega)),Nat.add_sub_cancel,←Nat.pow_add]
  have h3:=ha.2;rw[h2,show b-a=(b-a-1)+1 by omega,Nat.pow_succ,←Nat.mul_assoc,Nat.mul_mod_left]at h3;omega
 have:=key k j h g;have:=key j k g h;omega
theorem qcq.double {n k:Nat} (h:qcq n k) (m:Nat):qcq (n*2 ^ m) (k+m):=by
 rw[h.eq,Nat.mul_assoc,←Nat.pow_add];exact qiw h.2
theorem qpi : ∀n:Nat,n≠0→∃k,qcq n k:=by
 intro n;induction n using Nat.strongRecOn with
 |ind n ih=>
  intro h0;rcases Nat.mod_two_eq_zero_or_one n with h|h
  ·obtain⟨k,hk⟩:=ih (n / 2) (by omega) (by omega)
   have:=hk.double 1;rw[Nat.pow_one,show n / 2*2=n by omega]at this;exact⟨_,this⟩
  ·exact⟨0,by simp[Nat.mod_one],by simpa using h⟩
theorem qcq.lt {n k m:Nat} (h:qcq n k) (hn:n<2 ^ m):k<m:=by
 rcases Nat.lt_or_ge k m with g|g
 ·exact g
 ·have h1:=h.eq
  have h2:1≤n / 2 ^ k:=by
   rcases Nat.eq_zero_or_pos (n / 2 ^ k)with h0|h0
   ·have:=h.2
    rw[h0]at this;simp at this
   ·exact h0
  have h3:1*2 ^ k≤n / 2 ^ k*2 ^ k:=Nat.mul_le_mul_right _ h2;have h4:2 ^ m≤2 ^ k:=Nat.pow_le_pow_right (by omega) g;omega
theorem qcq.add {a k m v:Nat} (h:qcq a k) (ha:a<2 ^ m):qcq (a+2 ^ m*v) k:=by
 have hk:=h.lt ha
 have e:a+2 ^ m*v=(a / 2 ^ k+2*(2 ^ (m-k-1)*v))*2 ^ k:=by
  have hm:2 ^ m=2 ^ (m-k-1)*2*2 ^ k:=by
   rw[←Nat.pow_succ,←Nat.pow_add];congr 1
   omega
  rw[Nat.add_mul,←h.eq,hm];congr 1
  ac_rfl
 rw[e];refine qiw ?_;have:=h.2;omega
theorem qpt (a b:Nat):(2*a) &&& (2*b)=2*(a &&& b):=by
 apply Nat.eq_of_testBit_eq;intro i;cases i with
 |zero=>simp[Nat.testBit_zero]
 |succ i=>
  rw[Nat.testBit_and,Nat.testBit_succ,Nat.testBit_succ,Nat.testBit_succ,show 2*a / 2=a by omega,show 2*b / 2=b by omega,show 2*(a &&& b) / 2=a &&& b by omega,Nat.testBit_and]
theorem qpw (a b:Nat):(2*a+1) &&& (2*b+1)=2*(a &&& b)+1:=by
 apply Nat.eq_of_testBit_eq;intro i;cases i with
 |zero=>simp[Nat.testBit_zero]
 |succ i=>
  rw[Nat.testBit_and,Nat.testBit_succ,Nat.testBit_succ,Nat.testBit_succ,show(2*a+1) / 2=a by omega,show(2*b+1) / 2=b by omega,show(2*(a &&& b)+1) / 2=a &&& b by omega,Nat.testBit_and]
theorem qfy (a b:Nat):(2*a) &&& (2*b+1)=2*(a &&& b):=by
 apply Nat.eq_of_testBit_eq;intro i;cases i with
 |zero=>simp[Nat.testBit_zero]
 |succ i=>
  rw[Nat.testBit_and,Nat.testBit_succ,Nat.testBit_succ,Nat.testBit_succ,show 2*a / 2=a by omega,show(2*b+1) / 2=b by omega,show 2*(a &&& b) / 2=a &&& b by omega,Nat.testBit_and]
theorem qhS : ∀(k a:Nat),a<2 ^ k→a &&& (2 ^ k-1-a)=0
 |0,a,h=>by have:a=0:=by simpa using h
            subst this;simp
 |k+1,a,h=>by
  rw[Nat.pow_succ]at h;have ih:=qhS k (a / 2) (by omega);rcases Nat.mod_two_eq_zero_or_one a with h2|h2
  ·have e1:a=2*(a / 2):=by omega
   have e2:2 ^ (k+1)-1-a=2*(2 ^ k-1-a / 2)+1:=by rw[Nat.pow_succ];omega
   rw[e2];conv=>lhs;lhs;rw[e1]
   rw[qfy,ih]
  ·have e1:a=2*(a / 2)+1:=by omega
   have e2:2 ^ (k+1)-1-a=2*(2 ^ k-1-a / 2):=by rw[Nat.pow_succ];omega
   rw[e2];conv=>lhs;lhs;rw[e1]
   rw[Nat.and_comm,qfy,Nat.and_comm,ih]
theorem and_neg : ∀(k y t:Nat),y<2 ^ k→qcq y t→y &&& (2 ^ k-y)=2 ^ t
 |0,y,t,h,ht=>by exact absurd (by simpa using h) ht.pos
 |k+1,y,t,h,ht=>by
  rw[Nat.pow_succ]at h;cases t with
  |zero=>
   have h1:y % 2=1:=by simpa using ht.2
   have e1:y=2*(y / 2)+1:=by omega
   have e2:2 ^ (k+1)-y=2*(2 ^ k-1-y / 2)+1:=by rw[Nat.pow_succ];omega
   rw[e2];conv=>lhs;lhs;rw[e1]
   rw[qpw,qhS k _ (by omega)]
  |succ t=>
   have h1:=ht.eq
   have e1:y=2*(y / 2):=by
    have:y % 2=0:=by rw[h1,Nat.pow_succ,←Nat.mul_assoc,Nat.mul_mod_left]
    omega
   have ht':qcq (y / 2) t:=by
    have:y / 2=y / 2 ^ (t+1)*2 ^ t:=by
     conv=>lhs;rw[h1]
     rw[Nat.pow_succ,←Nat.mul_assoc,Nat.mul_div_cancel _ (by omega)]
    rw[this];exact qiw ht.2
   have e2:2 ^ (k+1)-y=2*(2 ^ k-y / 2):=by rw[Nat.pow_succ];omega
   rw[e2];conv=>lhs;lhs;rw[e1]
   rw[qpt,and_neg k (y / 2) t (by omega) ht',Nat.pow_succ,Nat.mul_comm]
def t32 :List Nat:=[0,1,28,2,29,14,24,3,30,22,20,15,25,17,4,8,31,27,13,23,21,19,16,7,26,12,18,6,11,5,10,9]
def T32 (W:World):Prop:= ∀k,k<32→W.cell? ⟨1,k,none⟩=some (.int .u8 ((t32.getD k 0:Nat):Int))
theorem T32.kept {W W':World} (h:T32 W) (hk:Kept W W'):T32 W':=fun k hk'=>(hk.cells 1 k (lt_of_cell (h 0 (by omega)))).trans (h k hk')
theorem qpH : ∀t:Fin 32,2 ^ t.val*125613361 % 4294967296 / 134217728<32∧t32.getD (2 ^ t.val*125613361 % 4294967296 / 134217728) 0=t.val:=by decide +kernel
theorem qnV (y t:Nat) (w:World) (hy:y<4294967296) (ht:qcq y t) (hT:T32 w):
  Calls prog 192 #[.int .u32 (y:Int)] w fun e w'=>e=.returned (.int .i64 (t:Int))∧w'=w:=by
 have h0:=ht.pos;have ht9:t<32:=ht.lt (m:=32) hy;have h1: ¬(y:Int)=0:=by omega
 have e1:IntKind.u32.wrap (-(y:Int))=((4294967296-y:Nat):Int):=by rw[IntKind.wrap_u32];omega
 have e2:bits BinOp.and IntKind.u32 (y:Int) ((4294967296-y:Nat):Int)=((2 ^ t:Nat):Int):=by
  rw[u32_and_nat _ _ hy (by omega)];have:=and_neg 32 y t hy ht;rw[show(2:Nat) ^ 32=4294967296 from rfl]at this;rw[this]
 obtain⟨g1,g2⟩:=qpH ⟨t,ht9⟩;simp only at g1 g2;obtain⟨m,hm⟩: ∃m,m=2 ^ t:=⟨_,rfl⟩
 rw[←hm]at e2 g1 g2;obtain⟨p,hp⟩: ∃p,p=m*125613361 % 4294967296:=⟨_,rfl⟩
 rw[←hp]at g1 g2;have e3:IntKind.u32.wrap ((m:Int)*125613361)=(p:Int):=by rw[IntKind.wrap_u32];omega
 obtain⟨j,hj⟩: ∃j,j=p / 134217728:=⟨_,rfl⟩
 rw[←hj]at g1 g2;have e4:(p:Int) / 134217728=(j:Int):=by omega
 have hc:=hT j g1;rw[g2]at hc;clear hj hp hm g2 hT ht;go_enter func192,ntmps192
 go_wp2
 go_ret
 exact⟨rfl,rfl⟩
theorem qoj (A:Option Addr) (c:Nat) (l:List Nat) (x k:Nat) (w:World) (hl:l.length≤100000000) (hr:Row w A (qaA l)) (hd:D32 l x) (hk:qcq x k) (hT:T32 w):
  Calls prog 185 #[.slice A l.length c] w fun e w'=>e=.returned (.int .u64 (k:Int))∧w'=w:=by
 have HR:=qh hr;have HD:=qh hd;have HT:=qh hT;have HK:=qh hk;clear hr hd hT hk;obtain⟨n,hn⟩: ∃n,n=l.length:=⟨_,rfl⟩
 rw[←hn]at hl⊢;have HN:=qh hn;clear hn;go_enter func185,ntmps185
 go_wp2_with fail
 go_loopg [3,4,7] n (fun gh v3 v4 v7 wr=> ∃(i:Nat),i+gh=n∧v7=.int .i64 i∧qab 4294967296 (l.take i)=0∧wr=w)
 case atStart=>exact⟨0,by omega,rfl,by simp[qab],rfl⟩
 case round=>
  obtain⟨i,hig,rfl,hv,rfl⟩:=hrel;cases gk with
  |zero=>
   exfalso;obtain rfl:n=i:=by omega
   rw[List.take_of_length_le (by have:=HN.out;omega),HD.out.val]at hv;exact HK.out.pos hv
  |succ gh=>
   obtain⟨a,ha⟩: ∃x,l[i]? =some x:=⟨_,List.getElem?_eq_getElem (by have:=HN.out;omega)⟩
   have hab:=HD.out.ok a (List.mem_of_getElem? ha);obtain⟨ba,oa,rfl,ca⟩:=qbO HR.out ha;have HAA:=qh ha;have HV:=qh hv;have hin:(i:Int)<n:=by omega
   clear ha hv;by_cases h0:a=0
   ·subst h0
    go_wp2_with fail
    go_roundg gh
    case measure=>omega
    case rel=>exact⟨i+1,by omega,by go_num,by rw[qap l i 0 HAA.out,HV.out];simp,rfl⟩
   ·have h1: ¬(a:Int)=0:=by omega
    obtain⟨t,ht⟩:=qpi a h0;have HTZ:=qh ht;have ht9:t<32:=ht.lt (m:=32) hab
    have hkt:k=32*i+t:=by
     refine HK.out.uniq ?_;have e1:=qcO (B:=4294967296) l (i+1) (by have:=HN.out;omega);rw[HD.out.val,qap l i a HAA.out,HV.out,Nat.zero_add,Nat.pow_succ,Nat.mul_assoc,←Nat.mul_add]at e1;have h3:=(ht.add (m:=32) hab (v:=qab 4294967296 (l.drop (i+1)))).double (32*i);rw[e1,Nat.mul_comm,show(4294967296:Nat) ^ i=2 ^ (32*i) by rw[Nat.pow_mul],Nat.add_comm (32*i)];exact h3
    clear ht;go_wp2_with (go_at_call 192;refine(qnV a t _ hab HTZ.out HT.out).mono ?_;rintro e w1 ⟨rfl,rfl⟩)
    go_ret
    exact⟨by rw[hkt];first|rfl|(congr 2;omega),rfl⟩
end
section
set_option maxHeartbeats 1600000
set_option maxRecDepth 100000
def qf6 (l:List UInt8):Bool:=decide (l.length≤16384)&& !(l.head? ==some 0)
theorem head_data (s:ByteArray) (h:0<s.size):s.data.toList.head? =some s[0]:=by
 obtain⟨⟨l⟩⟩:=s;cases l with
 |nil=>exact absurd h (by decide)
 |cons x l=>rfl
theorem qcS (s:ByteArray) (h:s.size=0):s=⟨#[]⟩:=by
 obtain⟨⟨l⟩⟩:=s;cases l with
 |nil=>rfl
 |cons x l=>exact absurd h (by show¬(l.length+1=0);omega)
theorem qlj (s:ByteArray) (b:Nat) (c:Nat) (w:World) (hs:s.size≤maxLen) (hc:w.cell? ⟨b,0,none⟩=some (.string s)):
  Calls prog 94 #[.slice (some ⟨b,0,none⟩) 1 c] w fun e w'=>e=.returned (.bool (qf6 s.data.toList))∧w=w':=by
 unfold maxLen at hs;have hb:=lt_of_cell hc;obtain⟨N,hN⟩: ∃N,N=qf6 s.data.toList:=⟨_,rfl⟩
 rw[←hN];have HN:=qh hN;clear hN;go_enter func94,ntmps94
 go_wp2
 go_loop [7] (fun i=> ∃k:Nat,k≤1∧i=.int .i64 k∧Hid (k=1→N=true)) (fun i=>1-(intOf i).toNat)
 case atStart=>exact⟨0,by omega,rfl,fun h=>by omega⟩
 case round=>
  obtain⟨k,hk,rfl,HK⟩:=hrel;rcases(show k=0∨k=1 by omega)with rfl|rfl
  ·by_cases h1:16384<s.size
   ·have hI:(16384:Int)<s.size:=by omega
    go_wp2
    go_ret
    exact⟨qbA (by rw[HN.out];simp[qf6];omega),rfl⟩
   ·by_cases h0:s.size=0
    ·have hE:=qcS s h0
     subst hE;go_wp2
     go_round
     case rel=>exact⟨1,by omega,by go_num,fun _=>by rw[HN.out];rfl⟩
     case measure=>simp[intOf]
    ·have hI: ¬(16384:Int)<s.size:=by omega
     have hz:s.toList=[]↔False:=by
      rw[Lib.toList_data];constructor
      ·intro h;exact h0 (by rw[←ByteArray.size_data,←Array.length_toList,h];rfl)
      ·exact False.elim
     have hz1:s.toList.isEmpty=false:=by
      cases h:s.toList with
      |nil=>exact(hz.1 h).elim
      |cons x l=>rfl
     have hp:0<s.size:=by omega
     have hpI:(0:Int)<s.size:=by omega
     have hh:=head_data s hp;obtain⟨x,hx⟩: ∃x,s[0]=x:=⟨_,rfl⟩
     rw[hx]at hh;have HH:=qh hh;clear hh;by_cases hx0:x=0
     ·subst hx0
      go_wp2
      go_ret
      exact⟨qbA (by rw[HN.out];simp[qf6,HH.out]),rfl⟩
     ·have hxI:((x.toNat:Int)==0)=false:=by
       rw[beq_eq_false_iff_ne];intro h;exact hx0 (UInt8.toNat_inj.1 (by simpa using h))
      go_wp2
      go_round
      case rel=>exact⟨1,by omega,by go_num,fun _=>by rw[HN.out];simp[qf6,HH.out,hx0];omega⟩
      case measure=>simp[intOf]
  ·have HT:=qh (HK.out rfl)
   clear HK;go_wp2
   go_ret
   exact⟨qbA HT.out.symm,rfl⟩
def qmK (l:List UInt8):Int:=if qf6 l then 0 else 2
theorem qix (s:ByteArray) (w:World) (hs:s.size≤maxLen):Calls prog 51 #[.string s] w fun e w'=>e=.returned (.int .i64 (qmK s.data.toList))∧Kept w w':=by
 have CM:=qh (fun(W:World) (b c:Nat) (hc:W.cell? ⟨b,0,none⟩=some (.string s))=>qlj s b c W hs hc);obtain⟨N,hN⟩: ∃N,N=qf6 s.data.toList:=⟨_,rfl⟩
 rw[←hN]at CM;rw[show qmK s.data.toList=if N then 0 else 2 by rw[hN];rfl];clear hN;cases N with
 |true=>
  go_enter func51,ntmps51
  go_wp2_with (go_at_call 94;refine(CM.out _ _ _ (by simp)).mono ?_;rintro e w1 ⟨rfl,rfl⟩)
  go_ret
  exact⟨rfl,(Below.refl _ _).alloc (Nat.le_refl _) _⟩
 |false=>
  go_enter func51,ntmps51
  go_wp2_with (go_at_call 94;refine(CM.out _ _ _ (by simp)).mono ?_;rintro e w1 ⟨rfl,rfl⟩)
  go_ret
  exact⟨rfl,(Below.refl _ _).alloc (Nat.le_refl _) _⟩
structure DyD where
 neg:Bool
 n:ByteArray
 e:Int
def DyD.ok (d:DyD):Prop:=d.n.size≤maxLen∧ -9223372036854775808≤d.e∧d.e≤9223372036854775807
def qae (d:DyD):Bool:=(!d.neg&&(decide (d.n.data.toList=[])&&decide (d.e=0)))||
 (!decide (d.n.data.toList=[])&&(qf6 d.n.data.toList&&(!decide ((d.n.data.toList.getLast?.getD 0).toNat % 2=0)&&(decide (-1048576≤d.e)&&decide (d.e≤1048576)))))
def qcG (d:DyD):Int:=if qae d then 0 else 2
theorem qh0 (s:ByteArray) (h:0<s.size):s.data.toList.getLast? =some (s[s.size-1]'(by omega)):=by
 obtain⟨⟨l⟩⟩:=s;show l.getLast? =_;rw[List.getLast?_eq_getElem?];have hl:0<l.length:=h;rw[List.getElem?_eq_getElem (by omega)];rfl
theorem qbq (d:DyD) (w:World) (hd:d.ok):Calls prog 19 #[.agg #[.bool d.neg,.string d.n,.int .i64 d.e]] w fun e w'=>e=.returned (.int .i64 (qcG d))∧Kept w w':=by
 obtain⟨neg,s,x⟩:=d;obtain⟨hs,hx0,hx1⟩:=hd;have CN:=qh (fun(W:World)=>qix s W hs);simp only at hs hx0 hx1⊢;by_cases h0:s.size=0
 ·have hE:=qcS s h0
  subst hE;by_cases hx:x=0
  ·subst hx
   cases neg with
   |false=>
    go_enter func19,ntmps19
    go_wp2
    go_ret
    exact⟨rfl,(Below.refl _ _).alloc (Nat.le_refl _) _⟩
   |true=>
    go_enter func19,ntmps19
    go_wp2
    go_ret
    exact⟨rfl,(Below.refl _ _).alloc (Nat.le_refl _) _⟩
  ·have HX:=qh hx
   go_enter func19,ntmps19
   go_wp2
   go_ret
   exact⟨qaW (by simp[qcG,qae,HX.out]),(Below.refl _ _).alloc (Nat.le_refl _) _⟩
 ·have hp:0<s.size:=by omega
  have hd0:s.data.toList≠[]:=by
   intro h;exact h0 (by rw[←ByteArray.size_data,←Array.length_toList,h];rfl)
  have hz:s.toList=[]↔False:=by
   rw[Lib.toList_data];exact⟨fun h=>hd0 h,False.elim⟩
  have hz1:s.toList.isEmpty=false:=by
   cases h:s.toList with
   |nil=>exact(hz.1 h).elim
   |cons x l=>rfl
  have hne:s≠⟨#[]⟩:=fun h=>h0 (by rw[h];rfl);have hpI:(0:Int)<s.size:=by omega
  have k1:(0:Int)≤(s.size:Int)-1:=by omega
  have k2:(s.size:Int)-1<s.size:=by omega
  have k3:((s.size:Int)-1).toNat=s.size-1:=by omega
  have k4:IntKind.i64.wrap ((s.size:Int)-1)=(s.size:Int)-1:=IntWalk.i64_in _ (by unfold maxLen at hs;omega);have k5:s.size-1<s.size:=by omega
  have HD:Hid (qcG ⟨neg,s,x⟩=if qf6 s.data.toList&&(!decide ((s[s.size-1]'k5).toNat % 2=0)&&(decide (-1048576≤x)&&decide (x≤1048576)))then 0 else 2):=by
   show _=_;simp[qcG,qae,hd0,qh0 s hp]
  obtain⟨y,hy⟩: ∃y,s[s.size-1]'k5=y:=⟨_,rfl⟩
  rw[hy]at HD;cases hn:qf6 s.data.toList with
  |false=>
   rw[show qmK s.data.toList=2 by simp[qmK,hn]]at CN;rw[hn]at HD;clear hn hd0;go_enter func19,ntmps19
   go_wp2_with (go_at_call 51;refine(CN.out _).mono ?_;rintro e w1 ⟨rfl,hk1⟩;have K1:=qh (((Below.refl _ w).alloc (Nat.le_refl _) (.cells (LC0 neg s x).toArray 24)).trans (hk1.mono (by simp)));have c1:=(hk1.cells w.heap.size 1 (by simp));have c2:=(hk1.cells w.heap.size 2 (by simp));simp at c1 c2;have hz5:=lt_of_cell c1;clear hk1)
   go_ret
   exact⟨qaW (by rw[HD.out];rfl),K1.out⟩
  |true=>
   rw[show qmK s.data.toList=0 by simp[qmK,hn]]at CN;rw[hn]at HD;clear hn hd0;go_enter func19,ntmps19
   go_wp2_with (go_at_call 51;refine(CN.out _).mono ?_;rintro e w1 ⟨rfl,hk1⟩;have K1:=qh (((Below.refl _ w).alloc (Nat.le_refl _) (.cells (LC0 neg s x).toArray 24)).trans (hk1.mono (by simp)));have c1:=(hk1.cells w.heap.size 1 (by simp));have c2:=(hk1.cells w.heap.size 2 (by simp));simp at c1 c2;have hz5:=lt_of_cell c1;clear hk1)
   all_goals
    go_ret
    refine⟨qaW ?_,K1.out⟩;rw[HD.out];simp only[beq_iff_eq,beq_eq_false_iff_ne,ne_eq]at *;split
    ·rename_i hq;simp at hq;first|rfl|omega
    ·rename_i hq;simp at hq;first|rfl|omega
def qhu (p q:DyD):Int:=if qae p&&qae q then 0 else 2
theorem qg3 (p q:DyD) (w:World) (hp:p.ok) (hq:q.ok):
  Calls prog 18 #[.agg #[.bool p.neg,.string p.n,.int .i64 p.e,.bool q.neg,.string q.n,.int .i64 q.e]] w fun e w'=>e=.returned (.int .i64 (qhu p q))∧Kept w w':=by
 have CP:=qh (fun(W:World)=>qbq p W hp);have CQ:=qh (fun(W:World)=>qbq q W hq);clear hp hq;cases hp:qae p with
 |false=>
  rw[show qcG p=2 by simp[qcG,hp]]at CP;have HP:=qh hp;clear hp;go_enter func18,ntmps18
  go_wp2_with (go_at_call 19;refine(CP.out _).mono ?_;rintro e w1 ⟨rfl,hk1⟩)
  go_ret
  exact⟨qaW (by simp[qhu,HP.out]),((Below.refl _ w).alloc (Nat.le_refl _) _).trans (hk1.mono (by simp))⟩
 |true=>
  rw[show qcG p=0 by simp[qcG,hp]]at CP;have HP:=qh hp;clear hp;cases hq:qae q with
  |false=>
   rw[show qcG q=2 by simp[qcG,hq]]at CQ;have HQ:=qh hq;clear hq;go_enter func18,ntmps18
   go_wp2_with fail
   refine(CP.out _).mono ?_;rintro e w1 ⟨rfl,hk1⟩;have c3:=(hk1.cells w.heap.size 3 (by simp))
   have c4:=(hk1.cells w.heap.size 4 (by simp))
   have c5:=(hk1.cells w.heap.size 5 (by simp))
   simp at c3 c4 c5;have hz5:=lt_of_cell c3;have K1:=qh (((Below.refl _ w).alloc (Nat.le_refl _) (.cells (LC1 p.neg p.n p.e q.neg q.n q.e).toArray 28)).trans (hk1.mono (by simp)));clear hk1;go_wp2_with fail
   refine(CQ.out _).mono ?_;rintro e w2 ⟨rfl,hk2⟩;go_wp2_with fail
   go_ret
   exact⟨qaW (by simp[qhu,HQ.out]),K1.out.trans (hk2.mono K1.out.size)⟩
  |true=>
   rw[show qcG q=0 by simp[qcG,hq]]at CQ;have HQ:=qh hq;clear hq;go_enter func18,ntmps18
   go_wp2_with fail
   refine(CP.out _).mono ?_;rintro e w1 ⟨rfl,hk1⟩;have c3:=(hk1.cells w.heap.size 3 (by simp))
   have c4:=(hk1.cells w.heap.size 4 (by simp))
   have c5:=(hk1.cells w.heap.size 5 (by simp))
   simp at c3 c4 c5;have hz5:=lt_of_cell c3;have K1:=qh (((Below.refl _ w).alloc (Nat.le_refl _) (.cells (LC1 p.neg p.n p.e q.neg q.n q.e).toArray 28)).trans (hk1.mono (by simp)));clear hk1;go_wp2_with fail
   refine(CQ.out _).mono ?_;rintro e w2 ⟨rfl,hk2⟩;go_wp2_with fail
   go_ret
   exact⟨qaW (by simp[qhu,HP.out,HQ.out]),K1.out.trans (hk2.mono K1.out.size)⟩
end
def qoD (B:Nat):Nat→Nat→List Nat
 |0,_=>[]
 |f+1,n=>if n=0 then []else n % B::qoD B f (n / B)
def qdv (B n:Nat):List Nat:=qoD B n n
theorem qjE {B:Nat} (hB:1<B): ∀f n,n≤f→Dig B (qoD B f n) n
 |0,n,h=>by rw[show n=0 by omega];exact Dig.nil
 |f+1,n,h=>by
  rw[qoD];by_cases h0:n=0
  ·rw [if_pos h0,h0];exact Dig.nil
  ·rw [if_neg h0]
   have hlt:n / B<n:=Nat.div_lt_self (by omega) hB;have ih:=qjE hB f (n / B) (by omega);refine⟨?_,?_,?_⟩
   ·intro x hx
    rcases List.mem_cons.1 hx with rfl|hx
    ·exact Nat.mod_lt _ (by omega)
    ·exact ih.ok x hx
   ·rw [qab,ih.val];exact Nat.mod_add_div n B
   ·rw [List.getLast?_cons]
    cases hl:qoD B f (n / B)with
    |nil=>
     have hz:n / B=0:=(ih.qci (by omega)).1 hl
     have:n<B:=by
      rcases Nat.lt_or_ge n B with h1|h1
      ·exact h1
      ·have:=Nat.div_pos h1 (show 0<B by omega);omega
     simp only[List.getLast?_nil,Option.getD_none];rw[Nat.mod_eq_of_lt this];intro e;exact h0 (Option.some.inj e)
    |cons y l=>
     have:=ih.top;rw[hl]at this;rw[List.getLast?_eq_some_getLast (l:=y::l) (by simp)]at this⊢;exact this
theorem qcx {B:Nat} (hB:1<B) (n:Nat):Dig B (qdv B n) n:=qjE hB n n (Nat.le_refl _)
theorem Dig.qlL {B:Nat} {l:List Nat} {n:Nat} (h:Dig B l n) (hB:1<B):l=qdv B n:=h.uniq (qcx hB n) hB
def qaB (n:Nat):List UInt8:=(qdv 256 n).reverse.map UInt8.ofNat
def qa1 (n:Nat):ByteArray:=⟨(qaB n).toArray⟩
def qc8 (l:List UInt8):Nat:=qab 256 (l.reverse.map UInt8.toNat)
def qf1 (s:ByteArray):Nat:=qc8 s.data.toList
theorem qpE (l:List UInt8): ∀x∈l.map UInt8.toNat,x<256:=by
 intro x hx;obtain⟨y,-,rfl⟩:=List.mem_map.1 hx;exact y.toNat_lt
theorem qmZ {l:List Nat} (h: ∀x∈l,x<256):(l.map UInt8.ofNat).map UInt8.toNat=l:=by
 rw[List.map_map];conv=>rhs;rw[←List.map_id l]
 apply List.map_congr_left;intro x hx;show(UInt8.ofNat x).toNat=x;rw[UInt8.toNat_ofNat'];exact Nat.mod_eq_of_lt (h x hx)
theorem qmB (l:List UInt8):(l.map UInt8.toNat).map UInt8.ofNat=l:=by
 rw[List.map_map];conv=>rhs;rw[←List.map_id l]
 apply List.map_congr_left;intro x _;exact UInt8.ofNat_toNat
theorem qgo (n:Nat):qc8 (qaB n)=n:=by
 unfold qc8 qaB;rw[←List.map_reverse,List.reverse_reverse,qmZ (qcx (by omega) n).ok];exact(qcx (by omega) n).val
theorem qgs (n:Nat):qf1 (qa1 n)=n:=by
 show qc8 (qaB n).toArray.toList=n;rw[List.toList_toArray];exact qgo n
theorem qir {l:List UInt8} (h:l.head? ≠some 0):Dig 256 (l.reverse.map UInt8.toNat) (qc8 l):=
 ⟨qpE _,rfl,by
  rw[List.map_reverse,List.getLast?_reverse,List.head?_map];cases l with
  |nil=>simp
  |cons x l=>
   simp only[List.head?_cons,Option.map_some,ne_eq,Option.some.injEq]at h⊢;intro e;exact h (UInt8.toNat_inj.1 (by simpa using e))⟩
theorem qiZ {l:List UInt8} (h:l.head? ≠some 0):qaB (qc8 l)=l:=by
 unfold qaB;rw[← (qir h).qlL (by omega),←List.map_reverse,List.reverse_reverse,qmB]
theorem qjq {s:ByteArray} (h:s.data.toList.head? ≠some 0):qa1 (qf1 s)=s:=by
 obtain⟨⟨l⟩⟩:=s;show ByteArray.mk (qaB (qc8 l)).toArray=_;rw[qiZ h]
theorem qgy (n:Nat):(qaB n).head? ≠some 0:=by
 have h:=(qcx (B:=256) (by omega) n)
 unfold qaB;rw[List.head?_map,List.head?_reverse];have ht:=h.top;cases hl:(qdv 256 n).getLast? with
 |none=>simp
 |some x=>
  rw[hl]at ht;have hx:=h.ok x (List.mem_of_getLast? hl);simp only[Option.map_some,ne_eq,Option.some.injEq]at ht⊢;intro e;have:=congrArg UInt8.toNat e;rw[UInt8.toNat_ofNat',Nat.mod_eq_of_lt hx]at this;exact ht (by rw[this];rfl)
theorem qaT (n:Nat):(qaB n).length=(qdv 256 n).length:=by simp[qaB]
theorem qjw (n:Nat):(qa1 n).size=(qdv 256 n).length:=by
 show(qaB n).toArray.size=_;rw[List.size_toArray,qaT]
theorem qbM {B:Nat} (hB:1<B) (n k:Nat):(qdv B n).length≤k↔n<B ^ k:=by
 constructor
 ·intro h;exact Nat.lt_of_lt_of_le (qcx hB n).lt (Nat.pow_le_pow_right (by omega) h)
 ·intro h;exact(qcx hB n).qk2 hB h
theorem qhq (n k:Nat):(qa1 n).size≤k↔n<256 ^ k:=by rw[qjw];exact qbM (by omega) n k
theorem qoX (l:List UInt8):qc8 l<256 ^ l.length:=by
 have:=qcn (B:=256) (l.reverse.map UInt8.toNat) (qpE _);rw[List.length_map,List.length_reverse]at this;exact this
theorem qiu (l:List UInt8):qc8 l % 2=(l.getLast?.getD 0).toNat % 2:=by
 cases hl:l.reverse with
 |nil=>
  have:l=[]:=List.reverse_eq_nil_iff.1 hl;subst this;rfl
 |cons x m=>
  have:l=m.reverse++[x]:=by rw[←List.reverse_reverse l,hl,List.reverse_cons]
  unfold qc8;rw[hl,List.map_cons,qab,this];simp;omega
def DyD.num (d:DyD):Int:=if d.neg then -(qf1 d.n:Int)else qf1 d.n
def mkD (z e:Int):DyD:=⟨decide (z<0),qa1 z.natAbs,e⟩
def zD :DyD:=⟨false,⟨#[]⟩,0⟩
def qls (k:Nat):Nat:=256 ^ k
theorem qoY (k:Nat):qls k=256 ^ k:=rfl
def qlo :Nat:=qls 16384
theorem qek :qlo=qls 16384:=rfl
theorem qnP (k:Nat):0<qls k:=Nat.pow_pos (by omega)
theorem qgG {n a b:Nat} (h:n<256 ^ a) (hab:a≤b):n<qls b:=Nat.lt_of_lt_of_le h (Nat.pow_le_pow_right (by omega) hab)
theorem qj8 {n k:Nat} (h:n<qls k):(qdv 256 n).length≤k:=(qbM (by omega) _ _).2 h
theorem qol :0<qlo:=by rw[qek];exact qnP _
theorem qpm (z e:Int):(mkD z e).num=z:=by
 unfold DyD.num mkD;simp only[qgs,decide_eq_true_eq];split<;>omega
theorem qdP (d:DyD):d.num.natAbs=qf1 d.n:=by
 unfold DyD.num;cases d.neg<;>simp
theorem qpO :zD.num=0:=rfl
theorem DyD.ext' {a b:DyD} (h1:a.neg=b.neg) (h2:a.n=b.n) (h3:a.e=b.e):a=b:=by
 cases a;cases b;simp at h1 h2 h3;subst h1 h2 h3;rfl
theorem qbH (s:ByteArray):s.data.toList=[]↔s=⟨#[]⟩:=by
 obtain⟨⟨l⟩⟩:=s;constructor
 ·intro h;have:l=[]:=h;subst this;rfl
 ·intro h;cases h;rfl
theorem qdQ {d:DyD} (h:qae d=true):d=zD∨(d.n.data.toList.head? ≠some 0∧d.n.size≤16384∧qf1 d.n % 2=1∧ -1048576≤d.e∧d.e≤1048576):=by
 unfold qae at h;rw[Bool.or_eq_true]at h;rcases h with h|h
 ·simp only[Bool.and_eq_true,Bool.not_eq_true',decide_eq_true_eq]at h
  exact .inl (DyD.ext' h.1 ((qbH _).1 h.2.1) h.2.2)
 ·simp only[Bool.and_eq_true,Bool.not_eq_true',decide_eq_true_eq,decide_eq_false_iff_not,qf6,beq_eq_false_iff_ne]at h
  obtain⟨h1,⟨h2,h3⟩,h4,h5,h6⟩:=h;refine .inr ⟨h3,?_,?_,h5,h6⟩
  ·rw [←ByteArray.size_data,←Array.length_toList];exact h2
  ·unfold qf1;rw[qiu];omega
theorem qdF :qae zD=true:=rfl
theorem qoW (s:ByteArray) (h:s.size≤16384):qf1 s<qlo:=by
 have h1:=qoX s.data.toList;have h2:s.data.toList.length≤16384:=by rw[Array.length_toList,ByteArray.size_data];exact h
 rw[qek];exact qgG h1 h2
theorem qh4 {z e:Int} (h1:z.natAbs % 2=1) (h2:z.natAbs<qlo) (h3: -1048576≤e) (h4:e≤1048576):qae (mkD z e)=true:=by
 have hl:(mkD z e).n.data.toList=qaB z.natAbs:=by
  show(qaB z.natAbs).toArray.toList=_;rw[List.toList_toArray]
 have hm:=qiu (qaB z.natAbs);rw[qgo]at hm
 have hne:qaB z.natAbs≠[]:=by
  intro e0;rw[e0]at hm;simp at hm;omega
 unfold qae;rw[Bool.or_eq_true];right;simp only[hl,Bool.and_eq_true,Bool.not_eq_true',decide_eq_true_eq,decide_eq_false_iff_not,qf6,beq_eq_false_iff_ne];refine⟨hne,⟨?_,qgy _⟩,by omega,h3,h4⟩;rw[qaT];rw[qek]at h2;exact qj8 h2
theorem qif {d:DyD} (h:qae d=true):mkD d.num d.e=d:=by
 rcases qdQ h with rfl|⟨h1,h2,h3,h4,h5⟩
 ·rfl
 ·refine DyD.ext' ?_ ?_ rfl
  ·show decide (d.num<0)=d.neg
   unfold DyD.num;cases d.neg
   ·simp
   ·simp;omega
  ·show qa1 d.num.natAbs=d.n
   rw[qdP];exact qjq h1
theorem qaj {d:DyD} (h:qae d=true):d.num.natAbs<qlo∧(d.num=0→d=zD)∧(d.num≠0→d.num.natAbs % 2=1)∧ -1048576≤d.e∧d.e≤1048576:=by
 rcases qdQ h with rfl|⟨h1,h2,h3,h4,h5⟩
 ·exact⟨qol,fun _=>rfl,fun h=>absurd rfl h,by decide,by decide⟩
 ·refine⟨by rw[qdP];exact qoW _ h2,fun e=>?_,fun _=>by rw[qdP];exact h3,h4,h5⟩
  have:=qdP d;rw[e]at this;simp at this;omega
theorem qcu {d:DyD} (h:qae d=true):d.neg=decide (d.num<0):=by
 have:=congrArg DyD.neg (qif h);exact this.symm
theorem qdB {d:DyD} (h:qae d=true):d.n.size≤16384:=by
 rcases qdQ h with rfl|⟨h1,h2,h3,h4,h5⟩
 ·decide
 ·exact h2
theorem qcZ {d:DyD} (h:qae d=true):d.ok:=by
 have h1:=qdB h;have h2:=(qaj h).2.2.2;exact⟨by unfold maxLen;omega,by omega,by omega⟩
def tzF :Nat→Nat→Nat
 |0,_=>0
 |f+1,n=>if n % 2=1 then 0 else tzF f (n / 2)+1
def tz (n:Nat):Nat:=tzF n n
theorem qnZ : ∀f n,n≤f→n≠0→qcq n (tzF f n)
 |0,n,h,h0=>by omega
 |f+1,n,h,h0=>by
  rw[tzF];split
  ·rename_i h1;exact⟨by simp;omega,by simpa using h1⟩
  ·have ih:=qnZ f (n / 2) (by omega) (by omega)
   have h2:=ih.double 1;have h3:n / 2*2 ^ 1=n:=by omega
   rw[h3]at h2;exact h2
theorem qfx {n:Nat} (h:n≠0):qcq n (tz n):=qnZ n n (Nat.le_refl _) h
theorem qcq.qp2 {n t:Nat} (h:qcq n t):t=tz n:=h.uniq (qfx h.pos)
def qbb (z e:Int):DyD×Int:=
 if z=0 then(zD,0)else
 if z.natAbs / 2 ^ tz z.natAbs<qlo∧ -1048576≤e+tz z.natAbs∧e+tz z.natAbs≤1048576 then(mkD (z.sign*(z.natAbs / 2 ^ tz z.natAbs:Nat)) (e+tz z.natAbs),0)else(zD,4)
theorem qcH (e:Int):qbb 0 e=(zD,0):=by unfold qbb;rw[if_pos rfl]
theorem qpT (n m:Nat) (h:n≠0):tz (n*2 ^ m)=tz n+m:=((qfx h).double m).qp2.symm
theorem qcY (z:Int) (m:Nat):(z*2 ^ m).natAbs=z.natAbs*2 ^ m:=by rw[Int.natAbs_mul,Int.natAbs_pow];rfl
theorem qdj (z:Int) (m:Nat):(z*2 ^ m).sign=z.sign:=by
 rw[Int.sign_mul,Int.sign_eq_one_of_pos (show(0:Int)<2 ^ m from Int.pow_pos (by omega)),Int.mul_one]
theorem qkc (z e:Int) (m:Nat):qbb (z*2 ^ m) e=qbb z (e+m):=by
 by_cases h:z=0
 ·subst h;rw[Int.zero_mul,qcH,qcH]
 ·have h1:z.natAbs≠0:=by omega
  have h2:z*2 ^ m≠0:=Int.mul_ne_zero h (Int.ne_of_gt (Int.pow_pos (by omega)));unfold qbb;rw[if_neg h2,if_neg h,qcY,qpT _ _ h1,qdj]
  have h3:z.natAbs*2 ^ m / 2 ^ (tz z.natAbs+m)=z.natAbs / 2 ^ tz z.natAbs:=by
   rw[Nat.pow_add,Nat.mul_div_mul_right _ _ (Nat.pow_pos (by omega))]
  rw[h3,show e+((tz z.natAbs+m:Nat):Int)=e+m+tz z.natAbs by omega]
theorem qet (z e:Int):qae (qbb z e).1=true:=by
 unfold qbb;split
 ·exact qdF
 ·rename_i h
  split
  ·rename_i h1
   have h2:=qfx (show z.natAbs≠0 by omega)
   have h3:(z.sign*((z.natAbs / 2 ^ tz z.natAbs:Nat):Int)).natAbs=z.natAbs / 2 ^ tz z.natAbs:=by
    rw[Int.natAbs_mul,Int.natAbs_sign_of_ne_zero h,Nat.one_mul];rfl
   exact qh4 (by rw[h3];exact h2.2) (by rw[h3];exact h1.1) h1.2.1 h1.2.2
  ·exact qdF
theorem qjc (z e:Int):(qbb z e).2=0∨qbb z e=(zD,4):=by
 unfold qbb;split
 ·exact .inl rfl
 ·split
  ·exact .inl rfl
  ·exact .inr rfl
theorem qfu {B:Nat}: ∀(l:List Nat) (p r d:Nat),l[p]? =some r→qab B (l.set p d)+B ^ p*r=qab B l+B ^ p*d
 |[],p,r,d,h=>by simp at h
 |x::l,0,r,d,h=>by
  simp at h;subst h;simp[qab];omega
 |x::l,p+1,r,d,h=>by
  have ih:=qfu (B:=B) l p r d (by simpa using h);simp only[List.set_cons_succ,qab,Nat.pow_succ];have e1:B ^ p*B*r=B*(B ^ p*r):=by ac_rfl
  have e2:B ^ p*B*d=B*(B ^ p*d):=by ac_rfl
  have e3:B*qab B (l.set p d)+B*(B ^ p*r)=B*qab B l+B*(B ^ p*d):=by rw[←Nat.mul_add,ih,Nat.mul_add]
  rw[e1,e2];omega
theorem qoI {R l':List Nat} {cy p i j r y a S:Nat} (hp:p=i+j) (hr:R[p]? =some r) (hy:l'[j]? =some y) (h:qab 4294967296 R+cy*4294967296 ^ p=S+4294967296 ^ i*(a*qab 4294967296 (l'.take j))):
  qab 4294967296 (R.set p ((cy+(a*y+r)) % 4294967296))+(cy+(a*y+r)) / 4294967296*4294967296 ^ (p+1)=S+4294967296 ^ i*(a*qab 4294967296 (l'.take (j+1))):=by
 have h1:=qfu (B:=4294967296) R p r ((cy+(a*y+r)) % 4294967296) hr;have h2:=Nat.mod_add_div (cy+(a*y+r)) 4294967296
 have h3:4294967296 ^ p*((cy+(a*y+r)) % 4294967296)+(cy+(a*y+r)) / 4294967296*4294967296 ^ (p+1)=4294967296 ^ p*(cy+(a*y+r)):=by
  conv=>rhs;rw[←h2]
  rw[Nat.mul_add,Nat.pow_succ];congr 1
  ac_rfl
 have h4:4294967296 ^ p*(cy+(a*y+r))=cy*4294967296 ^ p+4294967296 ^ i*(a*(4294967296 ^ j*y))+4294967296 ^ p*r:=by
  rw[Nat.mul_add,Nat.mul_add,hp,Nat.pow_add,Nat.mul_comm cy];have:4294967296 ^ i*4294967296 ^ j*(a*y)=4294967296 ^ i*(a*(4294967296 ^ j*y)):=by ac_rfl
  omega
 rw[qap l' j y hy,Nat.mul_add,Nat.mul_add];omega
theorem qpc {R l l':List Nat} {cy i k a y:Nat} (hr:R[i+k]? =some 0) (ha:l[i]? =some a) (hk:k=l'.length) (hy:qab 4294967296 l'=y) (h:qab 4294967296 R+cy*4294967296 ^ (i+k)=qab 4294967296 (l.take i)*y+4294967296 ^ i*(a*qab 4294967296 (l'.take k))):
  qab 4294967296 (R.set (i+k) cy)=qab 4294967296 (l.take (i+1))*y:=by
 have h1:=qfu (B:=4294967296) R (i+k) 0 cy hr;rw[List.take_of_length_le (show l'.length≤k by omega),hy]at h;rw[qap l i a ha,Nat.add_mul,Nat.mul_assoc,←h];rw[Nat.mul_zero,Nat.add_zero,Nat.mul_comm _ cy]at h1;exact h1
theorem qkG {R:List Nat} {p d:Nat} (h: ∀z∈R,z<4294967296) (hd:d<4294967296): ∀z∈R.set p d,z<4294967296:=by
 intro z hz;rcases List.mem_or_eq_of_mem_set hz with hz|rfl
 ·exact h z hz
 ·exact hd
theorem qmd {cy a y r:Nat} (hc:cy<4294967296) (ha:a<4294967296) (hy:y<4294967296) (hr:r<4294967296):a*y≤18446744065119617025∧a*y+r≤18446744069414584320∧cy+(a*y+r)<18446744073709551616∧(cy+(a*y+r)) / 4294967296<4294967296:=by
 have h1:a*y≤4294967295*4294967295:=Nat.mul_le_mul (by omega) (by omega);refine⟨by omega,by omega,by omega,by omega⟩
set_option maxRecDepth 100000 in
set_option maxHeartbeats 3200000 in
theorem qlv (A A':Option Addr) (c c':Nat) (l l':List Nat) (x y:Nat) (w:World) (hl:l.length≤100000000) (hl':l'.length≤100000000) (hr:Row w A (qaA l)) (hr':Row w A' (qaA l')) (hd:D32 l x) (hd':D32 l' y):
  Calls prog 174 #[.slice A l.length c,.slice A' l'.length c'] w fun e w'=> ∃v,e=.returned v∧qb7 w' v (x*y) (l.length+l'.length)∧Kept w w':=by
 have HR:=qh hr;have HR':=qh hr';have HD:=qh hd;have HD':=qh hd';clear hr hr' hd hd';obtain⟨n,hn⟩: ∃n,n=l.length:=⟨_,rfl⟩
 obtain⟨k,hk⟩: ∃k,k=l'.length:=⟨_,rfl⟩
 rw[←hn]at hl;rw[←hk]at hl';rw[←hn,←hk];have HN:=qh (And.intro hn hk);clear hn hk
 have mk: ∀W,(Instr.makeSlice 229 (.int .i64 ((n:Int)+k)) (.int .i64 ((n:Int)+k))).run prog W=.ok (.slice (some ⟨W.heap.size,0,none⟩) (n+k) (n+k)) (W.alloc (.cells (qaA (List.replicate (n+k) 0)).toArray 253)):=fun W=>by
  have:=qdG (n+k) (by omega) W;simpa using this
 go_enter func174,ntmps174
 go_upto_region 2 with fail
 have HO:=qh (qex w (n+k) (by omega));have HK:=qh (show Kept w (w.alloc (.cells (qaA (List.replicate (n+k) 0)).toArray 253))from(Below.refl _ _).alloc (Nat.le_refl _) _);generalize(w.alloc (.cells (qaA (List.replicate (n+k) 0)).toArray 253))=W1 at *;clear mk;go_wp2_with fail
 go_loopg [6,7,8,9,10,19] n (fun gh v6 v7 v8 v9 v10 v19 wr=> ∃(i:Nat) (R:List Nat),i+gh=n∧v19=.int .i64 i∧R.length=n+k∧(∀z∈R,z<4294967296)∧(∀p,i+k≤p→p<n+k→R[p]? =some 0)∧qab 4294967296 R=qab 4294967296 (l.take i)*y∧Own wr w.heap.size 1 (.slice (some ⟨w.heap.size,0,none⟩) (n+k) (n+k)) (n+k) (qaA R)∧Kept w wr)
 case atStart=>exact⟨0,List.replicate (n+k) 0,by omega,rfl,by simp,fun z hz=>by rw[(List.mem_replicate.1 hz).2];omega,fun p _ hp=>by simp[hp],by rw[qcJ];simp[qab],HO.out,HK.out⟩
 case round=>
  obtain⟨i,R,hig,rfl,hRl,hRo,hRz,hv,ho,hk⟩:=hrel;cases gk with
  |zero=>
   obtain rfl:n=i:=by omega
   have HV:=qh (show qab 4294967296 R=x*y by rw[hv,List.take_of_length_le (by have:=HN.out.1;omega),HD.out.val]);have HZ:=qh (And.intro hRl hRo);have HOW:=qh ho;have HKR:=qh hk;clear hv ho hk hRl hRo hRz;go_wp2_with (go_at_call 182;refine(qdu (W0:=w) (m:=x*y) (k:=n+k) (L:=R) HOW.out HZ.out.1 (by omega) (Nat.le_refl _) HZ.out.2 HV.out).mono ?_;rintro e w9 ⟨v9,rfl,hd9,rfl⟩)
   go_ret
   exact⟨v9,rfl,hd9,HKR.out⟩
  |succ gh=>
   obtain⟨a,ha⟩: ∃x,l[i]? =some x:=⟨_,List.getElem?_eq_getElem (by have:=HN.out.1;omega)⟩
   have hab:=HD.out.ok a (List.mem_of_getElem? ha);obtain⟨ba,oa,rfl,ca⟩:=qbO (HR.out.kept hk) ha;have HAA:=qh ha;have hin:(i:Int)<n:=by omega
   have HKR:=qh hk;have HOW:=qh ho;have HV:=qh (And.intro hRl (And.intro hRo (And.intro hRz hv)));obtain⟨Wo,hWo⟩: ∃X,X=wr:=⟨_,rfl⟩
   subst hWo;clear hv ho hk ha hRl hRo hRz;go_wp2_with fail
   go_loopg [8,9,10,26] k (fun gh v8 v9 v10 v26 wr=> ∃(j cy:Nat) (R:List Nat),j+gh=k∧v26=.int .i64 j∧v8=.int .u64 cy∧cy<4294967296∧R.length=n+k∧(∀z∈R,z<4294967296)∧(∀p,i+k≤p→p<n+k→R[p]? =some 0)∧qab 4294967296 R+cy*4294967296 ^ (i+j)=qab 4294967296 (l.take i)*y+4294967296 ^ i*(a*qab 4294967296 (l'.take j))∧Own wr w.heap.size 1 (.slice (some ⟨w.heap.size,0,none⟩) (n+k) (n+k)) (n+k) (qaA R)∧Kept w wr)
   case atStart=>exact⟨0,0,R,by omega,rfl,rfl,by omega,HV.out.1,HV.out.2.1,HV.out.2.2.1,by rw[HV.out.2.2.2];simp[qab],HOW.out,HKR.out⟩
   case round=>
    clear HV HOW HKR;obtain⟨j,cy,R2,hjg,rfl,rfl,hcy,hRl,hRo,hRz,hv,ho,hk⟩:=hrel;have HKR:=qh hk;have HOW:=qh ho;have HV:=qh (And.intro hRl (And.intro hRo (And.intro hRz hv)));cases gk with
    |zero=>
     obtain rfl:k=j:=by omega
     obtain⟨-,f0⟩:=ho.free (j:=i+k) (by omega);have c0:=ho.qdv (hRz (i+k) (Nat.le_refl _) (by omega));clear hv ho hk hRl hRo hRz;go_wp2_with fail
     go_roundg gh
     case measure=>omega
     case rel=>
      exact⟨i+1,R2.set (i+k) cy,by omega,by go_num,by simp[HV.out.1],qkG HV.out.2.1 hcy,fun p hp hp2=>by rw[List.getElem?_set_ne (by omega)];exact HV.out.2.2.1 p (by omega) hp2,qpc (HV.out.2.2.1 (i+k) (Nat.le_refl _) (by omega)) HAA.out HN.out.2 HD'.out.val HV.out.2.2.2,HOW.out.lay (by omega) _,HKR.out.setCell (p:=⟨w.heap.size,i+k,none⟩) (Nat.le_refl _) _⟩
    |succ gj=>
     obtain⟨b,hb⟩: ∃x,l'[j]? =some x:=⟨_,List.getElem?_eq_getElem (by have:=HN.out.2;omega)⟩
     have hbb:=HD'.out.ok b (List.mem_of_getElem? hb);obtain⟨bb,ob,rfl,cb⟩:=qbO (HR'.out.kept hk) hb;obtain⟨r,hr⟩: ∃x,R2[i+j]? =some x:=⟨_,List.getElem?_eq_getElem (by omega)⟩
     have hrb:=hRo r (List.mem_of_getElem? hr);obtain⟨-,f0⟩:=ho.free (j:=i+j) (by omega);have c0:=ho.qdv hr;have HBB:=qh (And.intro hb hr);have hjk:(j:Int)<k:=by omega
     have e1:((a:Int)*b)=((a*b:Nat):Int):=by simp
     obtain⟨m,hm⟩: ∃m,m=a*b:=⟨_,rfl⟩
     obtain⟨g1,g2,g3,g4⟩:=qmd hcy hab hbb hrb;have HG4:=qh g4;rw[←hm]at e1 g1 g2 g3;have HM:=qh hm;clear hv ho hk hb hr hRl hRo hRz hm g4;go_wp2_with fail
     go_roundg gj
     case measure=>omega
     case rel=>
      have e2:((cy:Int)+(m+r)) % 4294967296=(((cy+(a*b+r)) % 4294967296:Nat):Int):=by rw[←HM.out];omega
      rw[e2];exact⟨j+1,(cy+(a*b+r)) / 4294967296,R2.set (i+j) ((cy+(a*b+r)) % 4294967296),by omega,by go_num,by rw[←HM.out];first|rfl|(congr 1;omega),HG4.out,by simp[HV.out.1],qkG HV.out.2.1 (Nat.mod_lt _ (by omega)),fun p hp hp2=>by rw[List.getElem?_set_ne (by omega)];exact HV.out.2.2.1 p hp hp2,qoI rfl HBB.out.2 HBB.out.1 HV.out.2.2.2,HOW.out.lay (by omega) _,HKR.out.setCell (p:=⟨w.heap.size,i+j,none⟩) (Nat.le_refl _) _⟩
section
def qaX (W:World) (p:Nat) (b:Bool) (v:Value):Prop:=W.heap[p]? =some (.cells #[.bool b,v] 231)
section
variable {W W' : World} {p q : Nat} {b : Bool} {v : Value}
theorem qaX.lt (h:qaX W p b v):p<W.heap.size:=(Array.getElem?_eq_some_iff.1 h).1
theorem qaX.c0 (h:qaX W p b v):W.cell? ⟨p,0,none⟩=some (.bool b):=by
 unfold qaX at h;simp[World.cell?,h]
theorem qaX.c1 (h:qaX W p b v):W.cell? ⟨p,1,none⟩=some v:=by
 unfold qaX at h;simp[World.cell?,h]
theorem qaX.f (h:qaX W p b v) (o:Nat):W.frozen? ⟨p,o,none⟩=false:=by
 unfold qaX at h;simp only[World.frozen?,h];simp
theorem qaX.kept (h:qaX W p b v) (hk:Kept W W'):qaX W' p b v:=(hk.block p h.lt).trans h
theorem qaX.grown (h:qaX W p b v) (hg:W.grownBy W' (some q)) (hne:p≠q):qaX W' p b v:=(hg.block p h.lt (by simpa using hne)).trans h
theorem qaX.new (W:World) (b:Bool) (v:Value) (p:Nat) (hp:p=W.heap.size):qaX (W.alloc (.cells #[.bool b,v] 231)) p b v:=by
 subst hp;show(W.heap.push _)[W.heap.size]? =_;simp
theorem qaX.laid (h:qaX W p b v) (b':Bool) (v':Value):qaX ((W.setCell ⟨p,0,none⟩ (.bool b')).setCell ⟨p,1,none⟩ v') p b' v':=by
 have hlt:=h.lt;unfold qaX at h⊢
 have h2:W.heap[p]=.cells #[.bool b,v] 231:=by
  rw[Array.getElem?_eq_getElem hlt]at h;exact Option.some.inj h
 simp[World.setCell,Array.getElem?_modify,h]
theorem qkY (W:World) (p:Nat) (x y:Value):W.grownBy ((W.setCell ⟨p,0,none⟩ x).setCell ⟨p,1,none⟩ y) (some p):=by
 have h1:=qcv W p 0 [x,y];simpa [World.setCells] using h1
end
theorem qm7 {W:World} {p:Nat} {b:Bool} {v:Value} (h:qaX W p b v) {A:Option Addr} {l:List Nat} (hr:Row W A (qaA l)) (hv: ∀x:Int,v≠ .int .u32 x):qaA l=[]∨∀g off,A=some ⟨g,off,none⟩→some g≠some p:=by
 rcases hr with hr|⟨g,off,rfl,hc⟩
 ·exact .inl hr
 ·cases l with
  |nil=>exact .inl rfl
  |cons x l=>
   refine .inr fun g' off' e e2=>?_;cases e;cases e2;have h1:=hc 0 (.int .u32 (x:Int)) (by simp[qaA]);unfold qaX at h;simp only[World.cell?,h]at h1;match off,h1 with
   |0,h1=>simp at h1
   |1,h1=>simp at h1;exact hv _ h1
   |n+2,h1=>simp at h1
theorem qb7.slice {W:World} {v:Value} {n k:Nat} (h:qb7 W v n k): ∀x:Int,v≠ .int .u32 x:=by
 obtain⟨A,c,l,rfl,-⟩:=h;intro x e;cases e
theorem qb7.grown {W W':World} {v u:Value} {n k p:Nat} {b:Bool} (h:qb7 W v n k) (hb:qaX W p b u) (hu: ∀x:Int,u≠ .int .u32 x) (hg:W.grownBy W' (some p)):qb7 W' v n k:=by
 obtain⟨A,c,l,h1,h2,h3,h4,h5⟩:=h;refine⟨A,c,l,h1,h2,h3,?_,h5⟩;rcases qm7 hb h4 hu with e|e
 ·rw [e];exact Row.nil
 ·exact h4.grown hg e
theorem qb7.more {W:World} {v:Value} {n k j:Nat} (h:qb7 W v n k) (hj:k≤j):qb7 W v n j:=by
 obtain⟨A,c,l,h1,h2,h3,h4,h5⟩:=h;exact⟨A,c,l,h1,h2,by omega,h4,h5⟩
def qar (W:World) (p:Nat) (z:Int) (k:Nat):Prop:= ∃v,qaX W p (decide (z<0)) v∧qb7 W v z.natAbs k
section
variable {W W' : World} {p q k j : Nat} {z y : Int}
theorem qar.lt (h:qar W p z k):p<W.heap.size:=h.choose_spec.1.lt
theorem qar.kept (h:qar W p z k) (hk:Kept W W'):qar W' p z k:=by
 obtain⟨v,h1,h2⟩:=h;exact⟨v,h1.kept hk,h2.kept hk⟩
theorem qar.more (h:qar W p z k) (hj:k≤j):qar W p z j:=by
 obtain⟨v,h1,h2⟩:=h;exact⟨v,h1,h2.more hj⟩
theorem qar.grown (h:qar W p z k) (hq:qar W q y j) (hg:W.grownBy W' (some q)) (hne:p≠q):qar W' p z k:=by
 obtain⟨v,h1,h2⟩:=h;obtain⟨u,h3,h4⟩:=hq;exact⟨v,h1.grown hg hne,h2.grown h3 h4.slice hg⟩
end
set_option maxRecDepth 100000 in
set_option maxHeartbeats 1600000 in
theorem qbY (p:Nat) (b0 b:Bool) (u v:Value) (z:Int) (n k:Nat) (w:World) (hb:qaX w p b0 u) (hu: ∀x:Int,u≠ .int .u32 x) (hd:qb7 w v n k) (hz:z.natAbs=n) (hs:(b&&decide (0<n))=decide (z<0)):
  Calls prog 152 #[.pointer (some ⟨p,0,none⟩),.bool b,v] w fun e w'=>e=.returned (.pointer (some ⟨p,0,none⟩))∧qar w' p z k∧w.grownBy w' (some p):=by
 have HD:=qh hd;obtain⟨A,c,l,rfl,-,-,-,hdl⟩:=hd
 have hpos:(0<l.length)↔0<n:=by
  have h1:=hdl.qci (by omega);have h3:l.length=0↔n=0:=List.length_eq_zero_iff.trans h1;omega
 have HB:=qh hb;have HU:=qh hu;have HZ:=qh hz;have c0:=hb.c0;have c1:=hb.c1;have f0:=hb.f 0;have f1:=hb.f 1
 have HF:Hid (∀W',W'=(w.setCell ⟨p,0,none⟩ (.bool (decide (z<0)))).setCell ⟨p,1,none⟩ (.slice A l.length c)→qar W' p z k∧w.grownBy W' (some p)):=by
  rintro W' rfl;have hg:=qkY w p (.bool (decide (z<0))) (.slice A l.length c);exact⟨⟨_,HB.out.laid _ _,by rw[HZ.out];exact HD.out.grown HB.out HU.out hg⟩,hg⟩
 have HS:=qh hs;have HP:=qh hpos;clear hb hu hz hdl hs hpos;cases b with
 |false=>
  have e0:decide (z<0)=false:=by rw[←HS.out];rfl
  rw[e0]at HF;clear e0;go_enter func152,ntmps152
  go_wp2_with fail
  go_ret
  exact⟨rfl,HF.out _ rfl⟩
 |true=>
  by_cases hn:0<n
  ·have e0:decide (z<0)=true:=by rw[←HS.out];simp[hn]
   rw[e0]at HF;have h1:(0:Int)<l.length:=by have:=HP.out.2 hn;omega
   clear e0;go_enter func152,ntmps152
   go_wp2_with fail
   go_ret
   exact⟨rfl,HF.out _ (by rw[decide_eq_true (show 0<l.length by omega)])⟩
  ·have e0:decide (z<0)=false:=by rw[←HS.out];simp[hn]
   rw[e0]at HF;have h1: ¬(0:Int)<l.length:=by have:=HP.out;omega
   clear e0;go_enter func152,ntmps152
   go_wp2_with fail
   go_ret
   exact⟨rfl,HF.out _ (by rw[decide_eq_false (show¬0<l.length by omega)])⟩
end
end Go.Proofs.YtfdnledkcongaaaGreatDoor
