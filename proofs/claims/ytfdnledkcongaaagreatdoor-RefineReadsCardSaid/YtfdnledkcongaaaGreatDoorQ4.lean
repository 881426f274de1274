/- Texts of one claim laid together: DyW, DoF, DoG, DyA, DyB, DyC, DyE, DoH, FltE. -/
import Derived.Test.YtfdnledkcongaaaGreatDoorQ3
import Derived.Laws.Externs
import Derived.IntWalk
import Derived.Test.YtfdnledkcongaaaGreatDoorRows
set_option linter.all false
namespace Go.Proofs.YtfdnledkcongaaaGreatDoor
open Go.RowKit Go.Proofs.Tryz
section
set_option maxHeartbeats 1600000
set_option maxRecDepth 100000
theorem qge (s:ByteArray):(s.data.toList.map fun b=>Value.int .u8 (b.toNat:Int))=bytesV s.data.toList:=rfl
theorem qmw (d:DyD) (w:World) (hd:d.n.size≤10000000):
  Calls prog 109 #[.agg #[.bool d.neg,.string d.n,.int .i64 d.e]] w fun e w'=> ∃p,e=.returned (.pointer (some ⟨p,0,none⟩))∧w.heap.size≤p∧qar w' p d.num (d.n.size / 4+1)∧Kept w w':=by
 obtain⟨neg,s,x⟩:=d;simp only at hd⊢
 have SET:Hid (∀W (p:Nat) (A:Option Addr) (c:Nat),(∃b u,qaX W p b u∧∀x:Int,u≠ .int .u32 x)→Row W A (bytesV s.data.toList)→Calls prog 150 #[.pointer (some ⟨p,0,none⟩),.slice A s.size c] W fun e w'=>e=.returned (.pointer (some ⟨p,0,none⟩))∧qar w' p (qf1 s:Int) (s.size / 4+1)∧W.grownBy w' (some p)):=fun W p A c ⟨b,u,h,hu⟩ hr=>by
  have hl:s.data.toList.length=s.size:=by rw[Array.length_toList,ByteArray.size_data]
  have:=qd4 p b u A c s.data.toList W (by omega) hr h hu;rw[hl]at this;exact this
 go_enter func109,ntmps109
 go_upto_region 2 with ((with_reducible show wpList _ _ _ _ _ _);refine qcB _ rfl 22 97 5 _ rfl underlying22 underlying97 underlying5 s rfl ?_ ?_)
 ·unfold maxLen;omega
 ·intro A c w1 hown hk1
  rw[qge]at hown;have HR:=qh hown.row
  have HBX:Hid (qaX w1 (w.heap.size+1) false (.slice none 0 0)):=by
   refine qaX.kept ?_ hk1;exact qaX.new _ _ _ _ (by simp)
  have KK:Hid (Kept w w1):=Kept.trans' (Kept.new (Kept.new (Below.refl _ w) _) _) hk1
  have cn:w1.cell? ⟨w.heap.size,0,none⟩=some (.bool neg):=by
   rw[hk1.cells _ _ (by simp;omega)];simp
  have hsz:w.heap.size+2≤w1.heap.size:=by have:=hk1.size;simp at this;omega
  clear hown hk1;obtain⟨n,hw⟩: ∃n,n=w.heap.size:=⟨_,rfl⟩
  rw[←hw]at HBX cn hsz⊢;have HW:=qh (show w.heap.size≤n+1 by omega);clear hw;go_upto_region 2 with (go_at_call 150;(with_reducible refine(SET.out _ _ _ _ ⟨_,_,HBX.out,qcb _ _ _⟩ HR.out).mono ?_);rintro e w2 ⟨rfl,h9,hg9⟩)
  have cn2:w2.cell? ⟨n,0,none⟩=some (.bool neg):=by
   rw[←cn];unfold World.cell?;rw[hg9.block n (by omega) (by simp)]
  have K2:=qh (qaD KK.out HW.out hg9);have H9:=qh h9;clear cn hg9 HBX HR hsz SET h9;cases neg with
  |false=>
   go_wp2_with fail
   go_ret
   exact⟨_,rfl,HW.out,H9.out,K2.out⟩
  |true=>
   have NEG:Hid (Calls prog 151 #[.pointer (some ⟨n+1,0,none⟩),.pointer (some ⟨n+1,0,none⟩)] w2 fun e w'=>e=.returned (.pointer (some ⟨n+1,0,none⟩))∧qar w' (n+1) (-(qf1 s:Int)) (s.size / 4+1)∧w2.grownBy w' (some (n+1))):=by
    obtain⟨b,u,hb,hu⟩:=H9.out.box;exact qi6 (n+1) (n+1) b u _ _ w2 H9.out hb hu
   go_wp2_with (go_at_call 151;(with_reducible refine NEG.out.mono ?_);rintro e w3 ⟨rfl,h8,hg8⟩)
   go_ret
   exact⟨_,rfl,HW.out,h8,qaD K2.out HW.out hg8⟩
theorem qib {z e:Int} {t y:Nat} (h0:z≠0) (ht:t=tz z.natAbs) (hy:y=z.natAbs / 2 ^ t) (h1:(qaB y).length≤16384) (h2: -1048576≤e+t) (h3:e+t≤1048576):qbb z e=(⟨decide (z<0),⟨(qaB y).toArray⟩,e+t⟩,0):=by
 have hlt:y<qlo:=by
  rw[qek];rw[qaT]at h1;exact qgG ((qcx (B:=256) (by omega) y).lt) h1
 have hy0:y≠0:=by
  have:=qfx (show z.natAbs≠0 by omega);intro e0;have h4:=this.2;rw[←ht,←hy,e0]at h4;simp at h4
 subst ht hy;unfold qbb;rw[if_neg h0,if_pos ⟨hlt,h2,h3⟩]
 have e1:(z.sign*((z.natAbs / 2 ^ tz z.natAbs:Nat):Int)).natAbs=z.natAbs / 2 ^ tz z.natAbs:=by
  rw[Int.natAbs_mul,Int.natAbs_sign_of_ne_zero h0,Nat.one_mul];rfl
 generalize z.natAbs / 2 ^ tz z.natAbs=y at *;unfold mkD;rw[e1];congr 2
 rcases Int.lt_trichotomy z 0 with h|h|h
 ·rw [Int.sign_eq_neg_one_of_neg h,decide_eq_true h,decide_eq_true (by omega)]
 ·exact absurd h h0
 ·rw [Int.sign_eq_one_of_pos h,decide_eq_false (by omega),decide_eq_false (by omega)]
theorem qhW {z e:Int} {t y:Nat} (h0:z≠0) (ht:t=tz z.natAbs) (hy:y=z.natAbs / 2 ^ t) (h1:16384<(qaB y).length∨1048576<e+t∨e+t< -1048576):qbb z e=(zD,4):=by
 subst ht hy;unfold qbb;rw[if_neg h0,if_neg];intro h2;rcases h1 with h|h|h
 ·have h3:=h2.1
  rw[qek]at h3;have:=qj8 h3;rw[qaT]at h;omega
 ·omega
 ·omega
theorem qeP {P:Program} {src dst e:TypeId} (hs:P.underlying src=some (.slice e)) (he:P.underlying e=some (.int .u8)) (hd:P.underlying dst=some .string)
  {w:World} {A:Option Addr} {n c:Nat} {l:List UInt8} (hl:l.length=n) (hr:Row w A (bytesV l)):(convert src dst (.slice A n c)).run P w=.ok (.string ⟨l.toArray⟩) w:=by
 have hb:bytesV l=(l.map fun b=>(b.toNat:Int)).map (Value.int .u8):=by simp[bytesV]
 rw[run_convert_bytes_string w src dst e A n c hs he hd]
 have key: ∀a:Addr,A=some a→(loadCells a n).run P w=.ok ((l.map fun b=>(b.toNat:Int)).map (Value.int .u8)).toArray w:=by
  intro a ha
  have:=run_loadCells_list (P:=P) w a ((l.map fun b=>(b.toNat:Int)).map (Value.int .u8)) (fun j v hj=>by
   rw[←hb]at hj;rcases hr with h|⟨b,off,h,hc⟩
   ·rw [h]at hj;simp at hj
   ·rw [ha]at h
    injection h with h;subst h;rw[qd1];exact hc j v hj)
  simpa [hl] using this
 cases A with
 |none=>
  have:l=[]:=by
   rcases hr with h|⟨b,off,h,_⟩
   ·simpa [bytesV] using h
   ·cases h
  subst this;simp[Conv.bytesToString,ByteArray.empty,ByteArray.emptyWithCapacity];rfl
 |some a=>
  have hid:((fun n:Int=>UInt8.ofNat n.toNat) ∘ fun b:UInt8=>(b.toNat:Int))=id:=by funext b;simp
  rw[run_bytesToString w a n c _ (key a rfl),foldl_push_bytes,List.map_map,hid];simp[ByteArray.empty,ByteArray.emptyWithCapacity];rfl
abbrev dyV (d:DyD):Value:=.agg #[.bool d.neg,.string d.n,.int .i64 d.e]
abbrev qai (x:DyD×Int):Value:=.tuple #[.agg #[.bool x.1.neg,.string x.1.n,.int .i64 x.1.e],.int .i64 x.2]
theorem qhk (p:Nat) (z e:Int) (k:Nat) (w:World) (hz:qar w p z k) (hk:k≤1000000) (h1: -1000000000≤e) (h2:e≤1000000000) (hT:T32 w):
  Calls prog 133 #[.pointer (some ⟨p,0,none⟩),.int .i64 e] w fun en w'=>en=.returned (qai (qbb z e))∧Kept w w':=by
 have SIGN:Hid (∀W,Kept w W→Calls prog 154 #[.pointer (some ⟨p,0,none⟩)] W fun e w'=>e=.returned (.int .i64 z.sign)∧w'=W):=fun W h=>qf8 p z k W (hz.kept h);by_cases h0:z=0
 ·subst h0
  rw[qcH];clear hz hT;go_enter func133,ntmps133
  go_upto_region 1 with fail
  have B1:=qh (Bx.new w (LC0 false ⟨#[]⟩ 0) 24 w.heap.size rfl);have K1:=qh (Kept.new (Below.refl _ w) (.cells (LC0 false ⟨#[]⟩ 0).toArray 24));obtain⟨b,hb⟩: ∃b,b=w.heap.size:=⟨_,rfl⟩
  rw[←hb]at B1⊢;have HB:=qh (show w.heap.size≤b by omega);clear hb;generalize(w.alloc (.cells (LC0 false ⟨#[]⟩ 0).toArray 24))=w1 at *;obtain⟨c0,c1,c2⟩:=B1.out.c3;obtain⟨f0,f1,f2⟩:=B1.out.f3;go_wp2_with (go_at_call 154;(with_reducible refine(SIGN.out _ K1.out).mono ?_);rintro e w3 ⟨rfl,hw3⟩;replace hw3:=hw3.symm;subst hw3)
  exact bodyPost_ret (v:=qai (zD,0)) (by simp[results,results133,go_sem,c0,c1,c2,qai,zD]) rfl ⟨rfl,K1.out.qaO HB.out _ _ _⟩
 ·have hs: ¬z.sign=0:=fun e0=>h0 (Int.sign_eq_zero_iff_zero.1 e0)
  obtain⟨t,ht⟩: ∃t,t=tz z.natAbs:=⟨_,rfl⟩
  obtain⟨y,hy⟩: ∃y,y=z.natAbs / 2 ^ t:=⟨_,rfl⟩
  have ht9:t≤32*k:=by
   obtain⟨v,hb,A,c,l,rfl,-,hl,hr,hdl⟩:=hz;have h3:=hdl.lt;rw[show(4294967296:Nat)=2 ^ 32 by decide,←Nat.pow_mul]at h3;have:=(qfx (show z.natAbs≠0 by omega)).lt h3;omega
  have TZ:Hid (∀W,Kept w W→Calls prog 166 #[.pointer (some ⟨p,0,none⟩)] W fun e w'=>e=.returned (.int .u64 (t:Int))∧w'=W):=fun W h=>
   qp p z k t W (hz.kept h) (by omega) (by rw[ht];exact qfx (by omega)) (hT.kept h)
  have ABS:Hid (∀W q,Kept w W→qaX W q false (.slice none 0 0)→Calls prog 168 #[.pointer (some ⟨q,0,none⟩),.pointer (some ⟨p,0,none⟩)] W fun e w'=>e=.returned (.pointer (some ⟨q,0,none⟩))∧qar w' q (z.natAbs:Int) k∧W.grownBy w' (some q)):=fun W q h hq=>
   qod p q false _ z k W (hz.kept h) hq (qcb _ _ _)
  have RSH:Hid (∀W q r,qaX W q false (.slice none 0 0)→qar W r (z.natAbs:Int) k→Calls prog 167 #[.pointer (some ⟨q,0,none⟩),.pointer (some ⟨r,0,none⟩),.int .u64 (t:Int)] W fun e w'=>e=.returned (.pointer (some ⟨q,0,none⟩))∧qar w' q (y:Int) k∧W.grownBy w' (some q)):=fun W q r hq hr=>by
   rw[hy];exact qi4 r q false _ z.natAbs t k W hr (by omega) (by omega) hq (qcb _ _ _)
  have BYTES:Hid (∀W q,qar W q (y:Int) k→Calls prog 169 #[.pointer (some ⟨q,0,none⟩)] W fun e w'=> ∃A c,e=.returned (.slice A (qaB y).length c)∧(qaB y).length≤c∧(qaB y).length≤4*k∧Row w' A (bytesV (qaB y))∧Kept W w'):=fun W q h=>by
   have:=qkU q (y:Int) k W h (by omega);rwa [Int.natAbs_natCast]at this
  have HT:=qh (And.intro ht hy);clear hz hT ht hy;go_enter func133,ntmps133
  go_upto_region 1 with fail
  have B1:=qh (Bx.new w (LC0 false ⟨#[]⟩ 0) 24 w.heap.size rfl);have K1:=qh (Kept.new (Below.refl _ w) (.cells (LC0 false ⟨#[]⟩ 0).toArray 24));obtain⟨b,hb⟩: ∃b,b=w.heap.size:=⟨_,rfl⟩
  rw[←hb]at B1⊢;have HB:=qh (show w.heap.size≤b by omega);clear hb;generalize(w.alloc (.cells (LC0 false ⟨#[]⟩ 0).toArray 24))=w1 at *;have e2: ¬1099511627776<e:=by omega
  have e3: ¬e< -1099511627776:=by omega
  have e4:IntKind.i64.wrap (t:Int)=t:=by rw[IntKind.wrap_i64];omega
  have e5:IntKind.u64.wrap (t:Int)=t:=by rw[IntKind.wrap_u64];omega
  go_upto_region 7 with (first
   |(go_at_call 154;(with_reducible refine(SIGN.out _ K1.out).mono ?_);rintro e w3 ⟨rfl,hw3⟩;replace hw3:=hw3.symm;subst hw3)
   |(go_at_call 166;(with_reducible refine(TZ.out _ K1.out).mono ?_);rintro e w3 ⟨rfl,hw3⟩;replace hw3:=hw3.symm;subst hw3))
  go_upto_region 8 with (first
   |(go_at_call 168;(with_reducible refine(ABS.out _ (w1.heap.size+1) (Kept.new (Kept.new K1.out _) _) (qaX.new _ _ _ _ (by simp))).mono ?_);rintro e w4 ⟨rfl,h4,hg4⟩)
   |(go_at_call 167;(with_reducible refine(RSH.out _ w1.heap.size _ (qaX.grown (qaX.kept (qaX.new w1 _ _ _ rfl) (Kept.new (Below.refl _ _) _)) hg4 (by omega)) h4).mono ?_);rintro e w5 ⟨rfl,h5,hg5⟩)
   |(go_at_call 169;(with_reducible refine(BYTES.out _ _ h5).mono ?_);rintro e w6 ⟨A,c,rfl,hc6,hk6,hr6,hkk6⟩))
  have K6:=qh (show Kept w1 w6 from(qaD (qaD (Kept.new (Kept.new (Below.refl _ w1) _) _) (by omega) hg4) (Nat.le_refl _) hg5).trans' hkk6);have R6:=qh hr6;clear hg4 hg5 hkk6 hr6 h4 h5 ABS RSH BYTES;obtain⟨m,hm⟩: ∃m,m=(qaB y).length:=⟨_,rfl⟩
  rw[←hm]at hc6⊢;have HM:=qh hm;rw[←hm]at hk6;clear hm;have B6:=qh (B1.out.kept K6.out);have KW:=qh (K1.out.trans' K6.out);obtain⟨c0,c1,c2⟩:=B6.out.c3;obtain⟨f0,f1,f2⟩:=B6.out.f3;clear K6 B1 K1 TZ e2 e3 e4 e5;have BAD:Hid ((16384<m∨1048576<e+t∨e+t< -1048576)→qbb z e=(zD,4)):=fun h=>qhW h0 HT.out.1 HT.out.2 (by rw[←HM.out];exact h);by_cases a1:16384<m
  ·have i1:(16384:Int)<m:=by omega
   have HX:=qh (BAD.out (.inl a1));clear SIGN BAD;go_wp2_with fail
   exact bodyPost_ret (v:=qai (zD,4)) (by simp[results,results133,go_sem,c0,c1,c2,qai,zD]) rfl ⟨by rw[HX.out],KW.out.qaO HB.out _ _ _⟩
  ·have i1: ¬(16384:Int)<m:=by omega
   by_cases a2:1048576<e+t
   ·have HX:=qh (BAD.out (.inr (.inl a2)))
    clear SIGN BAD;go_wp2_with fail
    exact bodyPost_ret (v:=qai (zD,4)) (by simp[results,results133,go_sem,c0,c1,c2,qai,zD]) rfl ⟨by rw[HX.out],KW.out.qaO HB.out _ _ _⟩
   ·by_cases a3:e+t< -1048576
    ·have HX:=qh (BAD.out (.inr (.inr a3)))
     clear SIGN BAD;go_wp2_with fail
     exact bodyPost_ret (v:=qai (zD,4)) (by simp[results,results133,go_sem,c0,c1,c2,qai,zD]) rfl ⟨by rw[HX.out],KW.out.qaO HB.out _ _ _⟩
    ·have HX:=qh (qib (e:=e) h0 HT.out.1 HT.out.2 (by rw[←HM.out];omega) (by omega) (by omega))
     have kv:Hid (∀W,Kept w6 W→(convert 97 22 (.slice A m c)).run prog W=.ok (.string ⟨(qaB y).toArray⟩) W):=fun W h=>
      qeP underlying97 underlying5 underlying22 HM.out.symm (R6.out.kept h)
     have hsn:decide (z.sign<0)=decide (z<0):=by
      rw[Bool.eq_iff_iff,decide_eq_true_eq,decide_eq_true_eq];exact Int.sign_neg_iff
     clear BAD;go_wp2_with fail
     refine qac (fun W=>(convert 97 22 (.slice A m c)).run prog W=.ok (.string ⟨(qaB y).toArray⟩) W) [7,8] (by kernel_rfl) ?_ (fun hHeld=>?_)
     ·first|exact kv.out _ (Below.refl _ w6).drew|assumption
     refine wS 0 45 ?_;refine wS 3 48 ?_;refine wS 4 49 ?_;refine wS 5 50 ?_;refine oS 1 fun K hK=>?_;go_simp;(refine(SIGN.out _ (KW.out.trans' (Below.refl _ w6).drew)).mono ?_;rintro e w7 ⟨rfl,hw7⟩;subst hw7)
     refine hK.out _ _ ?_ (fun hHeld=>?_)
     ·first|exact kv.out _ (Below.refl _ w6).drew|assumption
     clear hK K;try simp only[Act.put,tdy]
     refine wS 2 47 ?_;refine wS 6 51 ?_;refine eS 7 fun K hK=>?_;go_simp;refine hK.out _ _ ?_;clear hK K;try simp only[Act.put,tdy]
     refine eS 8 fun K hK=>?_;go_simp;refine hK.out _ _ ?_;clear hK K;try simp only[Act.put,tdy]
     refine dS ?_ _;go_wp2_with fail
     exact bodyPost_ret (v:=qai (qbb z e)) (by rw[HX.out];simp[results,results133,go_sem,c0,c1,c2,qai,hsn]) rfl ⟨rfl,(KW.out.trans' (Below.refl _ w6).drew).qaO HB.out _ _ _⟩
end
theorem D8.bytes {l:List Nat} {n:Nat} (h:D8 l n):l.length=(qaB n).length:=by rw[qaT,h.qlL (by omega)]
theorem D8.byte {l:List Nat} {n i d:Nat} (h:D8 l n) (hd:l[i]? =some d):d=n / 256 ^ i % 256:=by
 have:=qeC l (by omega) h.ok i d hd;rw[h.val]at this;exact this.symm
set_option maxRecDepth 100000 in
set_option maxHeartbeats 1600000 in
theorem qmy (A:Option Addr) (c:Nat) (l:List Nat) (n:Nat) (w:World) (hl:l.length≤1000000) (hr:Row w A (qaV l)) (hd:D8 l n):
  Calls prog 183 #[.slice A l.length c] w fun e w'=>e=.returned (.string (qa1 n))∧Kept w w':=by
 have HR:=qh hr;have HD:=qh hd;obtain⟨m,hm⟩: ∃m,m=l.length:=⟨_,rfl⟩
 rw[←hm]at hl⊢;have HM:=qh hm
 have hgo:(¬ (0:Int)<m)∨(∃ (b off t:Nat),A=some ⟨b,off,none⟩∧(0:Int)<m∧¬(t:Int)=0∧w.cell? ⟨b,off+(m-1),none⟩=some (.int .i64 (t:Nat))):=by
  rcases Nat.eq_zero_or_pos m with h|h
  ·exact .inl (by omega)
  ·have hx:l[m-1]? =some (l[m-1]'(by omega)):=List.getElem?_eq_getElem _
   obtain⟨b,off,hA,hc⟩:=qb8 hr hx;refine .inr ⟨b,off,_,hA,by omega,?_,hc⟩;intro e;have:=hd.top;rw[List.getLast?_eq_getElem?,←hm,hx]at this;exact this (by congr 1;omega)
 have mk:=qiO m (by omega);clear hr hd hm;rcases hgo with h1|⟨b1,off1,t1,rfl,h1,h2,c1⟩
 ·go_enter func183,ntmps183
  go_wp2_with fail
  go_loopg [3] 0 (fun gh v3 wr=>v3=.int .i64 (m:Int)∧wr=w)
  case atStart=>exact⟨rfl,rfl⟩
  case round=>
   obtain⟨rfl,rfl⟩:=hrel;go_upto_region 5 with fail
   have HO:=qh (qiR wr m (by omega));have HK:=qh (show Kept wr (wr.alloc (.cells (qc9 m) 5))from(Below.refl _ _).alloc (Nat.le_refl _) _);obtain⟨g,hg⟩: ∃g,g=wr.heap.size:=⟨_,rfl⟩
   rw[←hg]at HO⊢;have HG:=qh hg;obtain⟨w0,hw0⟩: ∃w0,w0=wr:=⟨_,rfl⟩
   subst hw0;generalize(World.alloc w0 (.cells (qc9 m) 5))=W1 at *;clear mk hg;go_wp2_with fail
   go_loopg [5] 0 (fun gh v5 wr=> ∃(i:Nat) (L:List UInt8),i+gh=0∧v5=.int .i64 i∧L.length=m∧(∀j,j<i→L[m-1-j]? =some (UInt8.ofNat (n / 256 ^ j % 256)))∧
    Own wr g 1 (.slice (some ⟨g,0,none⟩) m m) m (bytesV L)∧Kept w0 wr)
   case atStart=>exact⟨0,List.replicate m 0,by omega,rfl,by simp,fun j hj=>by omega,HO.out,HK.out⟩
   case round=>
    obtain⟨i,L,hig,rfl,hL,hv,ho,hk1⟩:=hrel;have HV:=qh hv;have HOW:=qh ho;have HKR:=qh hk1;obtain rfl:i=m:=by omega
    have hF:L=qaB n:=qe1 (by rw[hL,HM.out,HD.out.bytes,qaT]) (fun q hq=>by rw[hL];exact hv q (by omega))
    have kv:(convert 97 9 (.slice (some ⟨g,0,none⟩) i i)).run prog wr=.ok (.string (qa1 n)) wr:=by
     have:=qeP (P:=prog) (src:=97) (dst:=9) (e:=5) underlying97 underlying5 underlying9 hL ho.row (c:=i);rw[this,hF];rfl
    clear hv ho hk1 hF;go_wp2_with fail
    go_ret
    exact⟨rfl,HKR.out⟩
 ·go_enter func183,ntmps183
  go_wp2_with fail
  go_loopg [3] 0 (fun gh v3 wr=>v3=.int .i64 (m:Int)∧wr=w)
  case atStart=>exact⟨rfl,rfl⟩
  case round=>
   obtain⟨rfl,rfl⟩:=hrel;go_upto_region 5 with fail
   have HO:=qh (qiR wr m (by omega));have HK:=qh (show Kept wr (wr.alloc (.cells (qc9 m) 5))from(Below.refl _ _).alloc (Nat.le_refl _) _);obtain⟨g,hg⟩: ∃g,g=wr.heap.size:=⟨_,rfl⟩
   rw[←hg]at HO⊢;have HG:=qh hg;obtain⟨w0,hw0⟩: ∃w0,w0=wr:=⟨_,rfl⟩
   subst hw0;generalize(World.alloc w0 (.cells (qc9 m) 5))=W1 at *;clear mk hg;go_wp2_with fail
   go_loopg [5] m (fun gh v5 wr=> ∃(i:Nat) (L:List UInt8),i+gh=m∧v5=.int .i64 i∧L.length=m∧(∀j,j<i→L[m-1-j]? =some (UInt8.ofNat (n / 256 ^ j % 256)))∧
    Own wr g 1 (.slice (some ⟨g,0,none⟩) m m) m (bytesV L)∧Kept w0 wr)
   case atStart=>exact⟨0,List.replicate m 0,by omega,rfl,by simp,fun j hj=>by omega,HO.out,HK.out⟩
   case round=>
    obtain⟨i,L,hig,rfl,hL,hv,ho,hk1⟩:=hrel;have HV:=qh hv;have HOW:=qh ho;have HKR:=qh hk1;cases gk with
    |zero=>
     obtain rfl:i=m:=by omega
     have hF:L=qaB n:=qe1 (by rw[hL,HM.out,HD.out.bytes,qaT]) (fun q hq=>by rw[hL];exact hv q (by omega))
     have kv:(convert 97 9 (.slice (some ⟨g,0,none⟩) i i)).run prog wr=.ok (.string (qa1 n)) wr:=by
      have:=qeP (P:=prog) (src:=97) (dst:=9) (e:=5) underlying97 underlying5 underlying9 hL ho.row (c:=i);rw[this,hF];rfl
     clear hv ho hk1 hF;go_wp2_with fail
     go_ret
     exact⟨rfl,HKR.out⟩
    |succ gh=>
     obtain⟨d,hd⟩: ∃x,l[i]? =some x:=⟨_,List.getElem?_eq_getElem (by have:=HM.out;omega)⟩
     obtain⟨b,off,hA,c0⟩:=qb8 (HR.out.kept hk1) hd;have hdb:=HD.out.ok d (List.mem_of_getElem? hd);have HX:=qh (HD.out.byte hd);obtain⟨⟨u0,c2⟩,f0⟩:=ho.free (j:=m-1-i) (by omega);have hx1:(0:Int)≤(m:Int)-1-i:=by omega
     have hx2:(m:Int)-1-i<m:=by omega
     have hx3:((m:Int)-1-i).toNat=m-1-i:=by omega
     have hin:(i:Int)<m:=by omega
     first|subst hA|cases hA
     clear hv ho hk1 hd;go_wp2_with fail
     go_roundg gh
     case measure=>omega
     case rel=>
      refine⟨i+1,L.set (m-1-i) (UInt8.ofNat (n / 256 ^ i % 256)),by omega,by go_num,by simpa using hL,fun j hj=>?_,?_,HKR.out.setCell (p:=⟨g,m-1-i,none⟩) (show w0.heap.size≤g by have:=HG.out;omega) _⟩
      ·by_cases hji:j=i
       ·subst hji
        rw[List.getElem?_set_self (by omega)]
       ·rw [List.getElem?_set_ne (by omega)]
        exact HV.out j (by omega)
      ·have:=HOW.out.byte (j:=m-1-i) (by omega) d hdb
       rw[←HX.out];exact this
section
set_option maxHeartbeats 3200000
set_option maxRecDepth 100000
theorem qlT (n:Nat) (w:World) (hn:n<18446744073709551616):
  Calls prog 157 #[.int .u64 (n:Int)] w fun e w'=>e=.returned (.string (qa1 n))∧Kept w w':=by
 obtain⟨i0,hi,hi0,hi1,hi2⟩:=info_parts qdE;obtain⟨m,hm⟩: ∃m,m=(qdv 256 n).length:=⟨_,rfl⟩
 have hm8:m≤8:=by rw[hm,qbM (by omega)];exact hn
 have HM:=qh hm;clear hm;go_enter func157,ntmps157
 go_wp2_with fail
 go_loopg [0,3] m (fun gh v0 v3 wr=> ∃(i q:Nat),i+gh=m∧v0=.int .u64 (q:Int)∧q<18446744073709551616∧q=n / 256 ^ i∧Own wr w.heap.size 1 v3 i (qaV ((qdv 256 n).take i))∧Kept w wr)
 case atStart=>exact⟨0,n,by omega,rfl,hn,by simp,by simpa [qaV] using Own.nil w w.heap.size 1,Below.refl _ _⟩
 case round=>
  obtain⟨i,q,hig,rfl,hqb,hq,ho,hk⟩:=hrel;have HOW:=qh ho;have HKR:=qh hk;have HQ:=qh hq;clear hq hk;cases gk with
  |zero=>
   obtain rfl:i=m:=by omega
   have hq0:q=0:=by
    rw[HQ.out,Nat.div_eq_of_lt];exact(qbM (by omega) n i).1 (by have:=HM.out;omega)
   subst hq0;rw[List.take_of_length_le (by have:=HM.out;omega)]at ho;obtain⟨A,c,rfl,hnc,hcm,hrow,-,-⟩:=ho.form;have hd:=qcx (B:=256) (by omega) n;have C1:=qh (fun(W:World) (hk:Kept wr W)=>qmy A c (qdv 256 n) n W (by have:=HM.out;omega) (hrow.kept hk) hd);rw[←HM.out]at C1;clear ho hrow;go_wp2_with (go_at_call 183;refine(C1.out _ (Below.refl _ _)).mono ?_;rintro e w9 ⟨rfl,hk9⟩)
   go_ret
   exact⟨rfl,HKR.out.trans' hk9⟩
  |succ gh=>
   have hge: ¬n<256 ^ i:=fun h=>by
    have:=(qbM (by omega) n i).2 h;have:=HM.out;omega
   have hq0:q≠0:=by
    rw[HQ.out];have:=Nat.div_pos (Nat.le_of_not_lt hge) (Nat.pow_pos (n:=i) (show 0<256 by omega));omega
   have hx:=qiY n i (by have:=HM.out;omega);rw[←HQ.out]at hx;have HX:=qh hx;have hq1:(0:Int)<q:=by omega
   have hw:IntKind.i64.wrap ((q:Int) % 256)=(q:Int) % 256:=IntWalk.i64_in _ (by omega);clear ho hx;go_wp2_with (at_builtin;refine qaq _ rfl _ _ 98 rfl w.heap.size 3 i0 (.int .i64 0) 1 8 underlying98 hi hi0 hi1 hi2 rfl (by decide) _ i _ rfl (HOW.out.alloc _) (some ⟨wr.heap.size,0,none⟩) 1 1 [.int .i64 ((q:Int) % 256)] rfl rfl (Row.qbP _ _ _ _ _ _ rfl rfl) (qcl _) ?_ ?_ ?_ ?_)
   ·unfold maxLen;omega
   ·omega
   ·have:=HKR.out.size;simp;omega
   ·intro v3 w3 hown3 hg3 hat3
    have HO3:=qh hown3;have HK3:=qh (qbe (HKR.out.alloc (HKR.out.size) _) (HOW.out.alloc _) (Nat.le_refl _) (by have:=HKR.out.size;simp;omega) hg3);clear hown3 hg3 hat3;go_wp2_with fail
    go_roundg gh
    case measure=>omega
    case rel=>
     have hO:=HO3.out;rw[show(q:Int) % 256=((q % 256:Nat):Int) by omega,←qbZ]at hO;exact⟨i+1,q / 256,by omega,by go_num,by omega,by rw[HQ.out,Nat.div_div_eq_div_mul,Nat.pow_succ],by rw[List.take_add_one,HX.out];exact hO,HK3.out⟩
theorem qjH (neg:Bool) (A:Option Addr) (c:Nat) (l:List Nat) (x:Nat) (z e:Int) (w:World) (hl:l.length≤100000) (hr:Row w A (qaV l)) (hc:l.length≤c) (hd:D8 l x) (hz:z.natAbs=x) (hneg:z≠0→neg=decide (z<0)) (he:e.natAbs≤1000000000):
  Calls prog 135 #[.bool neg,.slice A l.length c,.int .i64 e] w fun en w'=>en=.returned (qai (qbb z e))∧Kept w w':=by
 obtain⟨m,hm⟩: ∃m,m=l.length:=⟨_,rfl⟩
 by_cases h0:z=0
 ·subst h0
  have hx0:x=0:=by rw[←hz];rfl
  have h1:m=0:=by rw[hm,(hd.qci (by omega)).2 hx0];rfl
  rw[←hm,h1,qcH];clear hr hd hneg hm h1;go_enter func135,ntmps135
  go_wp2_with fail
  exact bodyPost_ret (v:=qai (zD,0)) (by simp[results,results135,go_sem,qai,zD]) rfl ⟨rfl,Kept.new (Below.refl _ _) _⟩
 ·have hx0:x≠0:=by omega
  have hm0:m≠0:=by
   intro h;exact hx0 ((hd.qci (by omega)).1 (List.eq_nil_of_length_eq_zero (by omega)))
  have hn:=hneg h0;obtain⟨t,ht⟩: ∃t,t=tz z.natAbs:=⟨_,rfl⟩
  have hT:qcq x t:=by rw[ht,hz];exact qfx hx0
  have htb:t<8*m:=by
   have h1:=hd.lt;rw[qj,←hm]at h1;exact hT.lt h1
  have LOW:Hid (∀W,Kept w W→Calls prog 172 #[.slice A m c] W fun e w'=>e=.returned (.int .i64 (t:Int))∧W=w'):=fun W h=>by
   rw[hm];exact(qor A c l x t W (by omega) (hr.kept h) hd hT).mono fun _ _ h=>⟨h.1,h.2.symm⟩
  have HAL:Hid (∀W,Kept w W→Calls prog 164 #[.slice A m c,.int .i64 (t:Int)] W fun e w'=> ∃v,e=.returned v∧qbm w' v (x / 2 ^ t) m∧Kept W w'):=fun W h=>by
   rw[hm];exact qgU A c l x t W (by omega) (by omega) (hr.kept h) hd
  rw[←hm]at hl⊢;obtain⟨y,hy⟩: ∃y,y=x / 2 ^ t:=⟨_,rfl⟩
  rw[←hy]at HAL;have HT:=qh (And.intro ht (show y=z.natAbs / 2 ^ t by rw[hy,hz]));have hb1: ¬(m:Int)=0:=by omega
  have hb2:((m:Int)==0)=false:=by simpa using hb1
  subst hn;clear hr hd hz hneg hm ht hT hy hx0;go_enter func135,ntmps135
  go_upto_region 1 with fail
  obtain⟨b,w1,hw,hb,B0,K1,HB⟩:=qa4 w (LC0 false ⟨#[]⟩ 0) 24;rw[←hw,←hb];clear hw hb;go_upto_region 4 with (go_at_call 172;(with_reducible refine(LOW.out _ K1.out).mono ?_);rintro e w2 ⟨rfl,rfl⟩)
  go_upto_region 5 with (go_at_call 164;(with_reducible refine(HAL.out _ K1.out).mono ?_);rintro e w2 ⟨v,rfl,hv,hk2⟩)
  obtain⟨A2,c2,l2,rfl,hl2,hl2m,hr2,hd2⟩:=hv;obtain⟨k,hk⟩: ∃k,k=l2.length:=⟨_,rfl⟩
  rw[←hk]at hl2 hl2m⊢;have HK:=qh (And.intro hk (hk.trans hd2.bytes));have R2:=qh hr2;have D2:=qh hd2;have K2:=qh (K1.out.trans' hk2);have B2:=qh (B0.out.kept hk2);obtain⟨b0,b1,b2⟩:=B2.out.c3;obtain⟨f0,f1,f2⟩:=B2.out.f3;have BAD:Hid ((16384<k∨1048576<e+t∨e+t< -1048576)→qbb z e=(zD,4)):=fun h=>qhW h0 HT.out.1 HT.out.2 (by rw[←HK.out.2];exact h);clear hk hr2 hd2 hk2 LOW HAL K1 B0;by_cases a1:1048576<e
  ·have HX:=qh (BAD.out (.inr (.inl (by omega))))
   clear BAD;go_wp2_with fail
   exact bodyPost_ret (v:=qai (zD,4)) (by simp[results,results135,go_sem,b0,b1,b2,qai,zD]) rfl ⟨by rw[HX.out],K2.out.qaO HB.out _ _ _⟩
  ·skip
   by_cases a2:e< -4194304
   ·have HX:=qh (BAD.out (.inr (.inr (by omega))))
    clear BAD;go_wp2_with fail
    exact bodyPost_ret (v:=qai (zD,4)) (by simp[results,results135,go_sem,b0,b1,b2,qai,zD]) rfl ⟨by rw[HX.out],K2.out.qaO HB.out _ _ _⟩
   ·skip
    by_cases a3:1048576<e+t
    ·have HX:=qh (BAD.out (.inr (.inl (by omega))))
     clear BAD;go_wp2_with fail
     exact bodyPost_ret (v:=qai (zD,4)) (by simp[results,results135,go_sem,b0,b1,b2,qai,zD]) rfl ⟨by rw[HX.out],K2.out.qaO HB.out _ _ _⟩
    ·skip
     by_cases a4:e+t< -1048576
     ·have HX:=qh (BAD.out (.inr (.inr (by omega))))
      clear BAD;go_wp2_with fail
      exact bodyPost_ret (v:=qai (zD,4)) (by simp[results,results135,go_sem,b0,b1,b2,qai,zD]) rfl ⟨by rw[HX.out],K2.out.qaO HB.out _ _ _⟩
     ·skip
      by_cases a5:16384<k
      ·have HX:=qh (BAD.out (.inl (by omega)))
       have i1:(16384:Int)<k:=by omega
       clear BAD;go_wp2_with fail
       exact bodyPost_ret (v:=qai (zD,4)) (by simp[results,results135,go_sem,b0,b1,b2,qai,zD]) rfl ⟨by rw[HX.out],K2.out.qaO HB.out _ _ _⟩
      ·skip
       have i1: ¬(16384:Int)<k:=by omega
       have HX:=qh (qib (e:=e) h0 HT.out.1 HT.out.2 (by rw[←HK.out.2];omega) (by omega) (by omega));have mk:=qiO k (by omega);clear BAD;go_upto_region 8 with fail
       have HO:=qh (qiR w2 k (by omega));have K3:=qh (show Kept w2 (w2.alloc (.cells (qc9 k) 5))from(Below.refl _ _).alloc (Nat.le_refl _) _);obtain⟨g,hg⟩: ∃g,g=w2.heap.size:=⟨_,rfl⟩
       rw[←hg]at HO⊢;have HG:=qh hg;have hbg:=qh (show b≠g by have:=B2.out.lt;omega);generalize(World.alloc w2 (.cells (qc9 k) 5))=W1 at *;clear mk hg b0 b1 b2 f0 f1 f2;go_wp2_with fail
       go_loopg [10] k (fun gh v10 wr=> ∃(i:Nat) (L:List UInt8),i+gh=k∧v10=.int .i64 i∧L.length=k∧(∀j,j<i→L[k-1-j]? =some (UInt8.ofNat (y / 256 ^ j % 256)))∧
        Own wr g 1 (.slice (some ⟨g,0,none⟩) k k) k (bytesV L)∧Kept w2 wr)
       case atStart=>exact⟨0,List.replicate k 0,by omega,rfl,by simp,fun j hj=>by omega,HO.out,K3.out⟩
       case round=>
        obtain⟨i,L,hig,rfl,hL,hv,ho,hk1⟩:=hrel;have HV:=qh hv;have HOW:=qh ho;have HKR:=qh hk1;cases gk with
        |zero=>
         obtain rfl:i=k:=by omega
         have hF:L=qaB y:=qe1 (by rw[hL,HK.out.2,qaT]) (fun q hq=>by rw[hL];exact hv q (by omega))
         have kv:(convert 97 22 (.slice (some ⟨g,0,none⟩) i i)).run prog wr=.ok (.string ⟨(qaB y).toArray⟩) wr:=by
          have:=qeP (P:=prog) (src:=97) (dst:=22) (e:=5) underlying97 underlying5 underlying22 hL ho.row (c:=i);rw[this,hF]
         have B3:=qh (B2.out.kept hk1);obtain⟨b0,b1,b2⟩:=B3.out.c3;obtain⟨f0,f1,f2⟩:=B3.out.f3;clear hv ho hk1 hF;go_wp2_with fail
         exact bodyPost_ret (v:=qai (qbb z e)) (by rw[HX.out];simp[results,results135,go_sem,b0,b1,b2,qai]) rfl ⟨rfl,(K2.out.trans' HKR.out).qaO HB.out _ _ _⟩
        |succ gh=>
         obtain⟨d,hd⟩: ∃x,l2[i]? =some x:=⟨_,List.getElem?_eq_getElem (by have:=HK.out.1;omega)⟩
         obtain⟨bd,od,rfl,c0⟩:=qb8 (R2.out.kept hk1) hd;have hdb:=D2.out.ok d (List.mem_of_getElem? hd);have HXX:=qh (D2.out.byte hd);obtain⟨⟨u0,c2⟩,f0⟩:=ho.free (j:=k-1-i) (by omega);have hx1:(0:Int)≤(k:Int)-1-i:=by omega
         have hx2:(k:Int)-1-i<k:=by omega
         have hx3:((k:Int)-1-i).toNat=k-1-i:=by omega
         have hin:(i:Int)<k:=by omega
         clear hv ho hk1 hd;go_wp2_with fail
         go_roundg gh
         case measure=>omega
         case rel=>
          refine⟨i+1,L.set (k-1-i) (UInt8.ofNat (y / 256 ^ i % 256)),by omega,by go_num,by simpa using hL,fun j hj=>?_,?_,HKR.out.setCell (p:=⟨g,k-1-i,none⟩) (show w2.heap.size≤g by have:=HG.out;omega) _⟩
          ·by_cases hji:j=i
           ·subst hji
            rw[List.getElem?_set_self (by omega)]
           ·rw [List.getElem?_set_ne (by omega)]
            exact HV.out j (by omega)
          ·have:=HOW.out.byte (j:=k-1-i) (by omega) d hdb
           rw[←HXX.out];exact this
end
section
set_option maxHeartbeats 1600000
set_option maxRecDepth 100000
theorem qlp (n e:Int) (w:World) (h0: -9223372036854775808≤n) (h0':n≤9223372036854775807) (h1: -1000000000≤e) (h2:e≤1000000000) (hT:T32 w):
  Calls prog 132 #[.int .i64 n,.int .i64 e] w fun en w'=>en=.returned (qai (qbb n e))∧Kept w w':=by
 have NEW:Hid (∀W,Kept w W→Calls prog 165 #[.int .i64 n] W fun en w'=> ∃p,en=.returned (.pointer (some ⟨p,0,none⟩))∧qar w' p n 2∧Kept W w'):=fun W h=>
  (qjK n W h0 h0').mono fun en w' ⟨p,e1,e2,e3,e4⟩=>⟨p,e1,e3,e4⟩
 have MADE:Hid (∀W p,Kept w W→qar W p n 2→Calls prog 133 #[.pointer (some ⟨p,0,none⟩),.int .i64 e] W fun en w'=>en=.returned (qai (qbb n e))∧Kept W w'):=fun W p h hp=>
  qhk p n e 2 W hp (by omega) h1 h2 (hT.kept h)
 obtain⟨r,hr⟩: ∃r,r=qbb n e:=⟨_,rfl⟩
 rw[←hr]at MADE⊢;clear hr hT;go_enter func132,ntmps132
 go_upto_region 1 with fail
 obtain⟨b,w1,hw,hb,B0,K1,HB⟩:=qa4 w (LC0 false ⟨#[]⟩ 0) 24;rw[←hw,←hb];clear hw hb
 go_wp2_with (first
  |(go_at_call 165;(with_reducible refine(NEW.out _ K1.out).mono ?_);rintro e w3 ⟨p,rfl,h3,hk3⟩;have K3:=qh (K1.out.trans' hk3);have B3:=qh (B0.out.kept hk3))
  |(go_at_call 133;(with_reducible refine(MADE.out _ _ K3.out h3).mono ?_);rintro e w4 ⟨rfl,hk4⟩;have K4:=qh (K3.out.trans' hk4);obtain⟨c0,c1,c2⟩:=(B3.out.kept hk4).c3;obtain⟨f0,f1,f2⟩:=(B3.out.kept hk4).f3))
 exact bodyPost_ret (v:=qai r) (by simp[results,results132,go_sem,c0,c1,c2,qai]) rfl ⟨rfl,K4.out.qaO HB.out _ _ _⟩
theorem qnO (x y:DyD) (g c:Nat) (w:World) (hx:x.ok) (hy:y.ok) (hb:Bx w g (LC1 x.neg x.n x.e y.neg y.n y.e)):
  Calls prog 106 #[.slice (some ⟨g,0,none⟩) 2 c] w fun en w'=>en=.returned (.bool (qae x&&qae y))∧Kept w w':=by
 have CX:Hid (∀W,Calls prog 19 #[.agg #[.bool x.neg,.string x.n,.int .i64 x.e]] W fun e w'=>e=.returned (.int .i64 (qcG x))∧Kept W w'):=fun W=>qbq x W hx;have CY:Hid (∀W,Calls prog 19 #[.agg #[.bool y.neg,.string y.n,.int .i64 y.e]] W fun e w'=>e=.returned (.int .i64 (qcG y))∧Kept W w'):=fun W=>qbq y W hy;obtain⟨p,hp⟩: ∃p,p=qae x:=⟨_,rfl⟩
 obtain⟨q,hq⟩: ∃p,p=qae y:=⟨_,rfl⟩
 unfold qcG at CX CY;rw[←hp]at CX;rw[←hq]at CY;rw[←hp,←hq];clear hp hq hx hy;have HB:=qh hb;clear hb;go_enter func106,ntmps106
 go_wp2_with fail
 go_loopg [4,7] 2 (fun gh v4 v7 wr=> ∃i:Nat,i+gh=2∧v7=.int .i64 i∧Hid ((1≤i→p=true)∧(2≤i→q=true))∧Kept w wr)
 case atStart=>exact⟨0,by omega,rfl,⟨fun h=>by omega,fun h=>by omega⟩,Below.refl _ _⟩
 case round=>
  obtain⟨i,hig,rfl,HV,hk⟩:=hrel;have HK:=qh hk;have B:=HB.out.kept hk;obtain⟨c0,c1,c2,c3,c4,c5⟩:=B.c6;have hlt:=B.lt;have hwl:=hk.size;clear hk B;rcases(show i=0∨i=1∨i=2 by omega)with rfl|rfl|rfl
  ·obtain rfl:gk=2:=by omega
   cases p with
   |true=>
    go_wp2_with (go_at_call 19;(with_reducible refine(CX.out _).mono ?_);rintro e w3 ⟨rfl,hk3⟩)
    go_roundg 1
    case measure=>omega
    case rel=>exact⟨1,by omega,by go_num,⟨by simp,fun h=>by omega⟩,(((HK.out.new _)).trans' hk3)⟩
   |false=>
    go_wp2_with (go_at_call 19;(with_reducible refine(CX.out _).mono ?_);rintro e w3 ⟨rfl,hk3⟩)
    go_ret
    exact⟨rfl,(((HK.out.new _)).trans' hk3)⟩
  ·obtain rfl:gk=1:=by omega
   cases q with
   |true=>
    go_wp2_with (go_at_call 19;(with_reducible refine(CY.out _).mono ?_);rintro e w3 ⟨rfl,hk3⟩)
    go_roundg 0
    case measure=>omega
    case rel=>exact⟨2,by omega,by go_num,⟨fun _=>HV.out.1 (by omega),by simp⟩,(((HK.out.new _)).trans' hk3)⟩
   |false=>
    go_wp2_with (go_at_call 19;(with_reducible refine(CY.out _).mono ?_);rintro e w3 ⟨rfl,hk3⟩)
    go_ret
    exact⟨by simp,(((HK.out.new _)).trans' hk3)⟩
  ·obtain rfl:gk=0:=by omega
   have e1:=HV.out.1 (by omega);have e2:=HV.out.2 (by omega);subst e1 e2;go_wp2_with fail
   go_ret
   exact⟨rfl,HK.out⟩
theorem qcA {d:DyD} (h:qae d=true) (h0:d.num≠0):d.n≠⟨#[]⟩:=by
 intro e;apply h0;have:=qdP d;rw[e]at this;have h2:qf1 ⟨#[]⟩=0:=rfl;omega
theorem qcK (d:DyD) (w:World) (hd:qae d=true):Calls prog 20 #[.agg #[.bool d.neg,.string d.n,.int .i64 d.e]] w fun en w'=>en=.returned (.int .i64 d.num.sign)∧Kept w w':=by
 have CK:Hid (∀W,Calls prog 19 #[.agg #[.bool d.neg,.string d.n,.int .i64 d.e]] W fun e w'=>e=.returned (.int .i64 0)∧Kept W w'):=fun W=>by
  have:=qbq d W (qcZ hd);unfold qcG at this;rw[hd]at this;exact this
 by_cases h0:d.num=0
 ·obtain rfl:=(qaj hd).2.1 h0
  clear CK;show Calls prog 20 #[.agg #[.bool false,.string ⟨#[]⟩,.int .i64 0]] w fun en w'=>en=.returned (.int .i64 0)∧Kept w w';go_enter func20,ntmps20
  go_wp2_with fail
  go_ret
  exact⟨rfl,Kept.new (Below.refl _ _) _⟩
 ·have hne:=qcA hd h0
  have hneg:=qcu hd
  have HS:=qh (show d.num.sign=if d.neg then -1 else 1 by
   rw[hneg];rcases Int.lt_trichotomy d.num 0 with h|h|h
   ·rw [Int.sign_eq_neg_one_of_neg h,decide_eq_true h];rfl
   ·exact absurd h h0
   ·rw [Int.sign_eq_one_of_pos h,decide_eq_false (by omega)];rfl)
  rw[HS.out];obtain⟨neg,s,x⟩:=d;simp only at hne CK⊢;have hd0:s.data.toList≠[]:=fun h=>hne ((qbH s).1 h)
  have hz:s.toList=[]↔False:=by
   rw[Lib.toList_data];exact⟨fun h=>hd0 h,False.elim⟩
  have hz1:s.toList.isEmpty=false:=by
   cases h:s.toList with
   |nil=>exact(hz.1 h).elim
   |cons x l=>rfl
  clear HS hneg h0 hd hd0;cases neg with
  |false=>
   go_enter func20,ntmps20
   go_upto_region 1 with fail
   obtain⟨b,w1,hw,hb,B0,K1,HB⟩:=qa4 w (LC0 false s x) 24;rw[←hw,←hb];clear hw hb;obtain⟨c0,c1,c2⟩:=B0.out.c3;go_wp2_with (go_at_call 19;(with_reducible refine(CK.out _).mono ?_);rintro e w3 ⟨rfl,hk3⟩;obtain⟨c0,c1,c2⟩:=(B0.out.kept hk3).c3)
   go_ret
   exact⟨rfl,K1.out.trans' hk3⟩
  |true=>
   go_enter func20,ntmps20
   go_upto_region 1 with fail
   obtain⟨b,w1,hw,hb,B0,K1,HB⟩:=qa4 w (LC0 true s x) 24;rw[←hw,←hb];clear hw hb;obtain⟨c0,c1,c2⟩:=B0.out.c3;go_wp2_with (go_at_call 19;(with_reducible refine(CK.out _).mono ?_);rintro e w3 ⟨rfl,hk3⟩;obtain⟨c0,c1,c2⟩:=(B0.out.kept hk3).c3)
   go_ret
   exact⟨rfl,K1.out.trans' hk3⟩
theorem qnF (n:Int) (w:World):Calls prog 107 #[.int .i64 n] w fun en w'=>en=.returned (.int .i64 n.sign)∧w'=w:=by
 rcases Int.lt_trichotomy n 0 with h|h|h
 ·rw [Int.sign_eq_neg_one_of_neg h]
  go_enter func107,ntmps107
  go_wp2_with fail
  go_ret
  exact⟨rfl,rfl⟩
 ·subst h
  go_enter func107,ntmps107
  go_wp2_with fail
  go_ret
  exact⟨rfl,rfl⟩
 ·rw [Int.sign_eq_one_of_pos h]
  have h2: ¬n<0:=by omega
  go_enter func107,ntmps107
  go_wp2_with fail
  go_ret
  exact⟨rfl,rfl⟩
theorem qoM (d:DyD) (w:World) (hd:qae d=true):Calls prog 147 #[.agg #[.bool d.neg,.string d.n,.int .i64 d.e]] w fun en w'=>en=.returned (dyV (negS d))∧Kept w w':=by
 have CS:Hid (∀W,Calls prog 20 #[.agg #[.bool d.neg,.string d.n,.int .i64 d.e]] W fun e w'=>e=.returned (.int .i64 d.num.sign)∧Kept W w'):=fun W=>qcK d W hd
 have HS:=qh (show negS d=if d.num.sign=0 then zD else⟨!d.neg,d.n,d.e⟩ by
  unfold negS;by_cases h:d.num=0
  ·rw [if_pos h,h];rfl
  ·rw [if_neg h,if_neg (fun e=>h (Int.sign_eq_zero_iff_zero.1 e))])
 rw[HS.out];obtain⟨neg,s,x⟩:=d;simp only at CS⊢;generalize(DyD.mk neg s x).num.sign=g at *;clear HS hd;by_cases h0:g=0
 ·subst h0
  go_enter func147,ntmps147
  go_upto_region 1 with fail
  obtain⟨b,w1,hw,hb,B0,B1,K1,HB⟩:=qa6 w (LC0 neg s x) 24 (LC0 false ⟨#[]⟩ 0) 24;rw[←hw,←hb];clear hw hb;obtain⟨c0,c1,c2⟩:=B0.out.c3;go_wp2_with (go_at_call 20;(with_reducible refine(CS.out _).mono ?_);rintro e w3 ⟨rfl,hk3⟩;obtain⟨c0,c1,c2⟩:=(B0.out.kept hk3).c3;obtain⟨d0,d1,d2⟩:=(B1.out.kept hk3).c3;obtain⟨f0,f1,f2⟩:=(B1.out.kept hk3).f3)
  exact bodyPost_ret (v:=dyV zD) (by simp[results,results147,go_sem,d0,d1,d2,dyV,zD]) rfl ⟨rfl,(K1.out.trans' hk3).qaO (by have:=HB.out;omega) _ _ _⟩
 ·rw [if_neg h0]
  go_enter func147,ntmps147
  go_upto_region 1 with fail
  obtain⟨b,w1,hw,hb,B0,B1,K1,HB⟩:=qa6 w (LC0 neg s x) 24 (LC0 false ⟨#[]⟩ 0) 24;rw[←hw,←hb];clear hw hb;obtain⟨c0,c1,c2⟩:=B0.out.c3;go_wp2_with (go_at_call 20;(with_reducible refine(CS.out _).mono ?_);rintro e w3 ⟨rfl,hk3⟩;obtain⟨c0,c1,c2⟩:=(B0.out.kept hk3).c3;obtain⟨e0,e1,e2⟩:=(B0.out.kept hk3).f3;obtain⟨d0,d1,d2⟩:=(B1.out.kept hk3).c3;obtain⟨f0,f1,f2⟩:=(B1.out.kept hk3).f3)
  exact bodyPost_ret (v:=dyV ⟨!neg,s,x⟩) (by simp[results,results147,go_sem,d0,d1,d2,dyV]) rfl ⟨rfl,((K1.out.trans' hk3).set HB.out _ _).qaO (by have:=HB.out;omega) _ _ _⟩
end
theorem qfw (x y:DyD) (hx:qae x=true) (hy:qae y=true) (W:World) (g:Nat) (hb:Bx W g (LC1 x.neg x.n x.e y.neg y.n y.e)):
  Calls prog 106 #[.slice (some ⟨g,0,none⟩) 2 2] W fun en w'=>en=.returned (.bool true)∧Kept W w':=by
 have:=qnO x y g 2 W (qcZ hx) (qcZ hy) hb;rw[hx,hy]at this;exact this
theorem qcp (x:DyD) (hx:qae x=true) (W:World):
  Calls prog 109 #[.agg #[.bool x.neg,.string x.n,.int .i64 x.e]] W fun e w'=> ∃p,e=.returned (.pointer (some ⟨p,0,none⟩))∧W.heap.size≤p∧qar w' p x.num 4097∧Kept W w':=by
 have hs:=qdB hx;exact(qmw x W (by omega)).mono fun e w' ⟨p,h1,h2,h3,h4⟩=>⟨p,h1,h2,h3.more (by omega),h4⟩
theorem qfI (p:Nat) (x:Int) (k s:Nat) (W:World) (hk:k≤100000000) (hs:s≤1000000000) (h:qar W p x k):
  Calls prog 110 #[.pointer (some ⟨p,0,none⟩),.pointer (some ⟨p,0,none⟩),.int .u64 (s:Int)] W fun e w'=>e=.returned (.pointer (some ⟨p,0,none⟩))∧qar w' p (x*2 ^ s) (k+s / 32+1)∧W.grownBy w' (some p):=by
 obtain⟨b,u,hb,hu⟩:=h.box;exact qi2 p p b u x k s W h hk hs hb hu
theorem qpv (p r:Nat) (x y:Int) (k j:Nat) (W:World) (hk:k≤100000000) (hj:j≤100000000) (h:qar W p x k) (h':qar W r y j):
  Calls prog 134 #[.pointer (some ⟨p,0,none⟩),.pointer (some ⟨p,0,none⟩),.pointer (some ⟨r,0,none⟩)] W fun e w'=>e=.returned (.pointer (some ⟨p,0,none⟩))∧qar w' p (x+y) (max k j+1)∧W.grownBy w' (some p):=by
 obtain⟨b,u,hb,hu⟩:=h.box;exact qj5 p r p b u x y k j W h h' hk hj hb hu
set_option maxRecDepth 100000 in
set_option maxHeartbeats 3200000 in
theorem qfK (x y:DyD) (w:World) (hx:qae x=true) (hy:qae y=true) (hT:T32 w):
  Calls prog 90 #[.agg #[.bool x.neg,.string x.n,.int .i64 x.e],.agg #[.bool y.neg,.string y.n,.int .i64 y.e]] w fun en w'=>en=.returned (qai (qaE x y))∧Kept w w':=by
 have ALL:=qh (qfw x y hx hy);have SX:=qh (fun W=>qcK x W hx);have SY:=qh (fun W=>qcK y W hy);have WX:=qh (qcp x hx);have WY:=qh (qcp y hy);have hxe:=(qaj hx).2.2.2;have hye:=(qaj hy).2.2.2;by_cases h1:x.num=0
 ·have HR:=qh (show qaE x y=(y,0) by unfold qaE;rw[if_pos h1])
  rw[h1]at SX;rw[HR.out];obtain⟨xn,xs,xe⟩:=x;obtain⟨yn,ys,ye⟩:=y;simp only at ALL SX⊢;clear HR SY WX WY hx hy h1 hT hxe hye;go_enter func90,ntmps90
  go_upto_region 1 with fail
  obtain⟨b,w1,hw,hb,B0,B1,B2,K1,HB⟩:=qcj w (LC0 xn xs xe) 24 (LC0 yn ys ye) 24 (LC0 false ⟨#[]⟩ 0) 24;rw[←hw,←hb];clear hw hb;obtain⟨c0,c1,c2⟩:=B0.out.c3;obtain⟨d0,d1,d2⟩:=B1.out.c3
  go_wp2_with (first
   |(go_at_call 106;(with_reducible refine(ALL.out _ _ ?_).mono ?_);(exact Bx.new _ _ _ _ rfl);rintro e w3 ⟨rfl,hk3⟩;have K3:=qh ((Kept.new (Below.refl _ _) _).trans' hk3);obtain⟨c0,c1,c2⟩:=(B0.out.kept K3.out).c3)
   |(go_at_call 20;(with_reducible refine(SX.out _).mono ?_);rintro e w4 ⟨rfl,hk4⟩;have K4:=qh (K3.out.trans' hk4);obtain⟨d0,d1,d2⟩:=(B1.out.kept K4.out).c3;obtain⟨e0,e1,e2⟩:=(B2.out.kept K4.out).c3;obtain⟨f0,f1,f2⟩:=(B2.out.kept K4.out).f3))
  exact bodyPost_ret (v:=qai (⟨yn,ys,ye⟩,0)) (by simp[results,results90,go_sem,e0,e1,e2,qai]) rfl ⟨rfl,(K1.out.trans' K4.out).qaO (by have:=HB.out;omega) _ _ _⟩
 ·have hs1: ¬x.num.sign=0:=fun e=>h1 (Int.sign_eq_zero_iff_zero.1 e)
  by_cases h2:y.num=0
  ·have HR:=qh (show qaE x y=(x,0) by unfold qaE;rw[if_neg h1,if_pos h2])
   rw[h2]at SY;rw[HR.out];obtain⟨xn,xs,xe⟩:=x;obtain⟨yn,ys,ye⟩:=y;simp only at ALL SX SY hs1⊢;generalize(DyD.mk xn xs xe).num.sign=sg at *;clear HR WX WY hx hy h1 h2 hT hxe hye;go_enter func90,ntmps90
   go_upto_region 1 with fail
   obtain⟨b,w1,hw,hb,B0,B1,B2,K1,HB⟩:=qcj w (LC0 xn xs xe) 24 (LC0 yn ys ye) 24 (LC0 false ⟨#[]⟩ 0) 24;rw[←hw,←hb];clear hw hb;obtain⟨c0,c1,c2⟩:=B0.out.c3;obtain⟨d0,d1,d2⟩:=B1.out.c3;go_wp2_with (first
   |(go_at_call 106;(with_reducible refine(ALL.out _ _ ?_).mono ?_);(exact Bx.new _ _ _ _ rfl);rintro e w3 ⟨rfl,hk3⟩;have K3:=qh ((Kept.new (Below.refl _ _) _).trans' hk3);obtain⟨c0,c1,c2⟩:=(B0.out.kept K3.out).c3)
   |(go_at_call 20;(with_reducible refine(SX.out _).mono ?_);rintro e w4 ⟨rfl,hk4⟩;have K4:=qh (K3.out.trans' hk4);obtain⟨d0,d1,d2⟩:=(B1.out.kept K4.out).c3)
   |(go_at_call 20;(with_reducible refine(SY.out _).mono ?_);rintro e w5 ⟨rfl,hk5⟩;have K5:=qh (K4.out.trans' hk5);obtain⟨c0,c1,c2⟩:=(B0.out.kept K5.out).c3;obtain⟨d0,d1,d2⟩:=(B1.out.kept K5.out).c3;obtain⟨e0,e1,e2⟩:=(B2.out.kept K5.out).c3;obtain⟨f0,f1,f2⟩:=(B2.out.kept K5.out).f3))
   exact bodyPost_ret (v:=qai (⟨xn,xs,xe⟩,0)) (by simp[results,results90,go_sem,e0,e1,e2,qai]) rfl ⟨rfl,(K1.out.trans' K5.out).qaO (by have:=HB.out;omega) _ _ _⟩
  ·have hs2: ¬y.num.sign=0:=fun e=>h2 (Int.sign_eq_zero_iff_zero.1 e)
   obtain⟨lo,hlo⟩: ∃lo,lo=min x.e y.e:=⟨_,rfl⟩
   obtain⟨hi,hhi⟩: ∃hi,hi=max x.e y.e:=⟨_,rfl⟩
   have l1:(if x.e<y.e then x.e else y.e)=lo:=by rw[hlo];split<;>omega
   have l2:(if x.e<y.e then y.e else x.e)=hi:=by rw[hhi];split<;>omega
   have l3:(if y.e<x.e then y.e else x.e)=lo:=by rw[hlo];split<;>omega
   have l4:(if y.e<x.e then x.e else y.e)=hi:=by rw[hhi];split<;>omega
   have b1:lo≤x.e:=by omega
   have b2:lo≤y.e:=by omega
   have b3:hi-lo≤2097152:=by omega
   have b4: -1048576≤lo:=by omega
   have b5:lo≤1048576:=by omega
   have b6:hi≤1048576:=by omega
   have b7:x.e≤hi:=by omega
   have b8:y.e≤hi:=by omega
   by_cases h3:131080<hi-lo
   ·have HR:=qh (show qaE x y=(zD,4) by unfold qaE;rw[if_neg h1,if_neg h2,←hlo,←hhi,if_pos h3])
    rw[HR.out];obtain⟨xn,xs,xe⟩:=x;obtain⟨yn,ys,ye⟩:=y;simp only at ALL SX SY hs1 hs2 b1 b2 b7 b8 l1 l2 l3 l4⊢;generalize(DyD.mk xn xs xe).num.sign=sg at *;generalize(DyD.mk yn ys ye).num.sign=sh at *;replace hlo:=hlo.symm;replace hhi:=hhi.symm;simp only at hlo hhi;clear HR WX WY hx hy h1 h2 hT hxe hye;go_enter func90,ntmps90
    go_upto_region 1 with fail
    obtain⟨b,w1,hw,hb,B0,B1,B2,K1,HB⟩:=qcj w (LC0 xn xs xe) 24 (LC0 yn ys ye) 24 (LC0 false ⟨#[]⟩ 0) 24;rw[←hw,←hb];clear hw hb;obtain⟨c0,c1,c2⟩:=B0.out.c3;obtain⟨d0,d1,d2⟩:=B1.out.c3;go_wp2_with (first
    |(go_at_call 106;(with_reducible refine(ALL.out _ _ ?_).mono ?_);(exact Bx.new _ _ _ _ rfl);rintro e w3 ⟨rfl,hk3⟩;have K3:=qh ((Kept.new (Below.refl _ _) _).trans' hk3);obtain⟨c0,c1,c2⟩:=(B0.out.kept K3.out).c3)
    |(go_at_call 20;(with_reducible refine(SX.out _).mono ?_);rintro e w4 ⟨rfl,hk4⟩;have K4:=qh (K3.out.trans' hk4);obtain⟨d0,d1,d2⟩:=(B1.out.kept K4.out).c3)
    |(go_at_call 20;(with_reducible refine(SY.out _).mono ?_);rintro e w5 ⟨rfl,hk5⟩;have K5:=qh (K4.out.trans' hk5);obtain⟨c0,c1,c2⟩:=(B0.out.kept K5.out).c3;obtain⟨d0,d1,d2⟩:=(B1.out.kept K5.out).c3;obtain⟨e0,e1,e2⟩:=(B2.out.kept K5.out).c3;obtain⟨f0,f1,f2⟩:=(B2.out.kept K5.out).f3))
    exact bodyPost_ret (v:=qai (zD,4)) (by simp[results,results90,go_sem,e0,e1,e2,qai,zD]) rfl ⟨rfl,(K1.out.trans' K5.out).qaO (by have:=HB.out;omega) _ _ _⟩
   ·obtain⟨sx,hsx⟩: ∃s:Nat,(s:Int)=x.e-lo:=⟨(x.e-lo).toNat,by omega⟩
    obtain⟨sy,hsy⟩: ∃s:Nat,(s:Int)=y.e-lo:=⟨(y.e-lo).toNat,by omega⟩
    have HR:=qh (show qaE x y=qbb (x.num*2 ^ sx+y.num*2 ^ sy) lo by
     unfold qaE;rw[if_neg h1,if_neg h2,←hlo,←hhi,if_neg h3,←hsx,←hsy,Int.toNat_natCast,Int.toNat_natCast])
    rw[HR.out];have x9:sx≤131080:=by omega
    have y9:sy≤131080:=by omega
    have MADE:Hid (∀W p,Kept w W→qar W p (x.num*2 ^ sx+y.num*2 ^ sy) 10000→Calls prog 133 #[.pointer (some ⟨p,0,none⟩),.int .i64 lo] W fun en w'=>en=.returned (qai (qbb (x.num*2 ^ sx+y.num*2 ^ sy) lo))∧Kept W w'):=fun W p h hp=>
     qhk p _ lo 10000 W hp (by omega) (by omega) (by omega) (hT.kept h)
    generalize qbb (x.num*2 ^ sx+y.num*2 ^ sy) lo=R at *;obtain⟨xn,xs,xe⟩:=x;obtain⟨yn,ys,ye⟩:=y;simp only at ALL SX SY WX WY MADE hs1 hs2 b1 b2 b7 b8 l1 l2 l3 l4 hsx hsy⊢;generalize(DyD.mk xn xs xe).num=X at *;generalize(DyD.mk yn ys ye).num=Y at *;generalize X.sign=sg at *;generalize Y.sign=sh at *;replace hlo:=hlo.symm;replace hhi:=hhi.symm;simp only at hlo hhi;replace hsx:=hsx.symm;replace hsy:=hsy.symm;have u1:IntKind.u64.wrap (sx:Int)=sx:=by rw[IntKind.wrap_u64];omega
    have u2:IntKind.u64.wrap (sy:Int)=sy:=by rw[IntKind.wrap_u64];omega
    clear HR hx hy h1 h2 hT hxe hye;go_enter func90,ntmps90
    go_upto_region 1 with fail
    obtain⟨b,w1,hw,hb,B0,B1,B2,K1,HB⟩:=qcj w (LC0 xn xs xe) 24 (LC0 yn ys ye) 24 (LC0 false ⟨#[]⟩ 0) 24;rw[←hw,←hb];clear hw hb;obtain⟨c0,c1,c2⟩:=B0.out.c3;obtain⟨d0,d1,d2⟩:=B1.out.c3
    go_upto_region 10 with (first
     |(go_at_call 106;(with_reducible refine(ALL.out _ _ ?_).mono ?_);(exact Bx.new _ _ _ _ rfl);rintro e w3 ⟨rfl,hk3⟩;have K3:=qh ((Kept.new (Below.refl _ _) _).trans' hk3);obtain⟨c0,c1,c2⟩:=(B0.out.kept K3.out).c3)
     |(go_at_call 20;(with_reducible refine(SX.out _).mono ?_);rintro e w4 ⟨rfl,hk4⟩;have K4:=qh (K3.out.trans' hk4);obtain⟨d0,d1,d2⟩:=(B1.out.kept K4.out).c3)
     |(go_at_call 20;(with_reducible refine(SY.out _).mono ?_);rintro e w5 ⟨rfl,hk5⟩;have K5:=qh (K4.out.trans' hk5);obtain⟨c0,c1,c2⟩:=(B0.out.kept K5.out).c3;obtain⟨d0,d1,d2⟩:=(B1.out.kept K5.out).c3))
    clear ALL SX SY K3 K4 hk4 hk5;go_upto_region 11 with (go_at_call 109;(with_reducible refine(WX.out _).mono ?_);rintro e w6 ⟨p,rfl,hp,ip,hk6⟩)
    have K6:=qh (K5.out.trans' hk6);have hp1:=qh (Nat.le_trans K5.out.size hp);obtain⟨d0,d1,d2⟩:=(B1.out.kept K6.out).c3;have IP:=qh ip;clear WX hk6 hp ip K5 c0 c1 c2;go_upto_region 12 with (go_at_call 109;(with_reducible refine(WY.out _).mono ?_);rintro e w7 ⟨q,rfl,hq,iq,hk7⟩)
    have K7:=qh (K6.out.trans' hk7);have hne:p≠q:=by have:=IP.out.lt;omega
    have hq1:=qh (Nat.le_trans K6.out.size hq);have IP7:=qh (IP.out.kept hk7);have IQ7:=qh iq;obtain⟨c0,c1,c2⟩:=(B0.out.kept K7.out).c3;have LX:=qh (qfI p X 4097 sx w7 (by omega) (by omega) IP7.out);clear WY hk7 hq iq K6 IP d0 d1 d2;go_upto_region 13 with (go_at_call 110;(with_reducible refine LX.out.mono ?_);rintro e w8 ⟨rfl,ip,hg8⟩)
    have IP8:=qh ip;have IQ8:=qh (IQ7.out.grown IP7.out hg8 (fun e=>hne e.symm));have K8:=qh (qaD K7.out hp1.out hg8);obtain⟨d0,d1,d2⟩:=(B1.out.kept K8.out).c3;have LY:=qh (qfI q Y 4097 sy w8 (by omega) (by omega) IQ8.out);clear hg8 ip K7 IP7 IQ7 LX c0 c1 c2;go_upto_region 14 with (go_at_call 110;(with_reducible refine LY.out.mono ?_);rintro e w9 ⟨rfl,iq,hg9⟩)
    have IQ9:=qh iq;have IP9:=qh (IP8.out.grown IQ8.out hg9 hne);have K9:=qh (qaD K8.out hq1.out hg9);have ADD:=qh (qpv p q _ _ _ _ w9 (by omega) (by omega) IP9.out IQ9.out);clear hg9 iq K8 IP8 IQ8 LY d0 d1 d2
    go_wp2_with (first
     |(go_at_call 134;(with_reducible refine ADD.out.mono ?_);rintro e w10 ⟨rfl,ip,hg10⟩;have IP10:=qh (ip.more (j:=10000) (by omega));have K10:=qh (qaD K9.out hp1.out hg10);clear hg10 ip)
     |(go_at_call 133;(with_reducible refine(MADE.out _ _ (K1.out.trans' K10.out) IP10.out).mono ?_);rintro e w11 ⟨rfl,hk11⟩;have K11:=qh (K10.out.trans' hk11);obtain⟨e0,e1,e2⟩:=(B2.out.kept K11.out).c3;obtain⟨f0,f1,f2⟩:=(B2.out.kept K11.out).f3))
    exact bodyPost_ret (v:=qai R) (by simp[results,results90,go_sem,e0,e1,e2,qai]) rfl ⟨rfl,(K1.out.trans' K11.out).qaO (by have:=HB.out;omega) _ _ _⟩
section
set_option maxHeartbeats 3200000
set_option maxRecDepth 100000
theorem qjd (x y:DyD) (w:World) (hx:qae x=true) (hy:qae y=true) (hT:T32 w):
  Calls prog 103 #[.agg #[.bool x.neg,.string x.n,.int .i64 x.e],.agg #[.bool y.neg,.string y.n,.int .i64 y.e]] w fun en w'=>en=.returned (qai (qdI x y))∧Kept w w':=by
 have ALL:=qh (qfw x y hx hy);have NEG:=qh (fun W=>qoM y W hy);have ADD:Hid (∀W,Kept w W→Calls prog 90 #[.agg #[.bool x.neg,.string x.n,.int .i64 x.e],.agg #[.bool (negS y).neg,.string (negS y).n,.int .i64 (negS y).e]] W fun en w'=>en=.returned (qai (qdI x y))∧Kept W w'):=fun W h=>qfK x (negS y) W hx (qfS hy) (hT.kept h);generalize qdI x y=R at *;generalize negS y=z at *;obtain⟨xn,xs,xe⟩:=x;obtain⟨yn,ys,ye⟩:=y;obtain⟨zn,zs,ze⟩:=z;simp only at ALL NEG ADD⊢;clear hx hy hT;go_enter func103,ntmps103
 go_upto_region 1 with fail
 obtain⟨b,w1,hw,hb,B0,B1,B2,K1,HB⟩:=qcj w (LC0 xn xs xe) 24 (LC0 yn ys ye) 24 (LC0 false ⟨#[]⟩ 0) 24;rw[←hw,←hb];clear hw hb;obtain⟨c0,c1,c2⟩:=B0.out.c3;obtain⟨d0,d1,d2⟩:=B1.out.c3;have SK:Hid (∀W,Kept w1 W→(W.cell? ⟨b,0,none⟩=some (.bool xn)∧W.cell? ⟨b,1,none⟩=some (.string xs)∧W.cell? ⟨b,2,none⟩=some (.int .i64 xe))∧W.cell? ⟨b+1,0,none⟩=some (.bool yn)∧W.cell? ⟨b+1,1,none⟩=some (.string ys)∧W.cell? ⟨b+1,2,none⟩=some (.int .i64 ye)):=fun W h=>⟨(B0.out.kept h).c3,(B1.out.kept h).c3⟩
 go_wp2_with (go_at_call 106;(with_reducible refine(ALL.out _ _ ?_).mono ?_);(exact Bx.new _ _ _ _ rfl);rintro e w3 ⟨rfl,hk3⟩;have K3:=qh ((Kept.new (Below.refl _ _) _).trans' hk3);clear hk3)
 have K3d:=qh (K3.out.trans' (Below.refl _ w3).drew);have hS0:=SK.out _ K3d.out;refine qac (fun W=>(W.cell? ⟨b,0,none⟩=some (.bool xn)∧W.cell? ⟨b,1,none⟩=some (.string xs)∧W.cell? ⟨b,2,none⟩=some (.int .i64 xe))∧W.cell? ⟨b+1,0,none⟩=some (.bool yn)∧W.cell? ⟨b+1,1,none⟩=some (.string ys)∧W.cell? ⟨b+1,2,none⟩=some (.int .i64 ye)) [6,7] (by kernel_rfl) ?_ (fun hHeld=>?_)
 ·assumption
 refine wS 0 12 ?_;refine wS 1 13 ?_;refine oS 2 fun K hK=>?_;go_simp;(refine(NEG.out _).mono ?_;rintro e w4 ⟨rfl,hk4⟩;have K4:=qh (K3d.out.trans' hk4);have hS4:=SK.out _ K4.out)
 refine hK.out _ _ ?_ (fun hHeld=>?_)
 ·assumption
 clear hK K;try simp only[Act.put,tdy]
 refine oS 3 fun K hK=>?_;go_simp;(refine(ADD.out _ (K1.out.trans' K4.out)).mono ?_;rintro e w5 ⟨rfl,hk5⟩;have K5:=qh (K4.out.trans' hk5);have hS5:=SK.out _ K5.out)
 refine hK.out _ _ ?_ (fun hHeld=>?_)
 ·assumption
 clear hK K;try simp only[Act.put,tdy]
 refine wS 4 16 ?_;refine wS 5 17 ?_;obtain⟨e0,e1,e2⟩:=(B2.out.kept K5.out).c3;obtain⟨f0,f1,f2⟩:=(B2.out.kept K5.out).f3;refine eS 6 fun K hK=>?_;go_simp;refine hK.out _ _ ?_;clear hK K;try simp only[Act.put,tdy]
 refine eS 7 fun K hK=>?_;go_simp;refine hK.out _ _ ?_;clear hK K;try simp only[Act.put,tdy]
 refine dS ?_ _;go_wp2_with fail
 exact bodyPost_ret (v:=qai R) (by simp[results,results103,go_sem,e0,e1,e2,qai]) rfl ⟨rfl,(K1.out.trans' K5.out).qaO (by have:=HB.out;omega) _ _ _⟩
theorem qo4 (p r:Nat) (x y:Int) (k j:Nat) (W:World) (hk:k≤100000000) (hj:j≤100000000) (h:qar W p x k) (h':qar W r y j):
  Calls prog 139 #[.pointer (some ⟨p,0,none⟩),.pointer (some ⟨p,0,none⟩),.pointer (some ⟨r,0,none⟩)] W fun e w'=>e=.returned (.pointer (some ⟨p,0,none⟩))∧qar w' p (x*y) (k+j)∧W.grownBy w' (some p):=by
 obtain⟨b,u,hb,hu⟩:=h.box;exact qoa p r p b u x y k j W h h' hk hj hb hu
theorem qhe (x y:DyD) (w:World) (hx:qae x=true) (hy:qae y=true) (hT:T32 w):
  Calls prog 97 #[.agg #[.bool x.neg,.string x.n,.int .i64 x.e],.agg #[.bool y.neg,.string y.n,.int .i64 y.e]] w fun en w'=>en=.returned (qai (mulS x y))∧Kept w w':=by
 have ALL:=qh (qfw x y hx hy);have WX:=qh (qcp x hx);have WY:=qh (qcp y hy);have hxe:=(qaj hx).2.2.2;have hye:=(qaj hy).2.2.2
 have MADE:Hid (∀W p,Kept w W→qar W p (x.num*y.num) 8194→Calls prog 133 #[.pointer (some ⟨p,0,none⟩),.int .i64 (x.e+y.e)] W fun en w'=>en=.returned (qai (mulS x y))∧Kept W w'):=fun W p h hp=>
  qhk p _ _ 8194 W hp (by omega) (by omega) (by omega) (hT.kept h)
 generalize mulS x y=R at *;obtain⟨xn,xs,xe⟩:=x;obtain⟨yn,ys,ye⟩:=y;simp only at ALL WX WY MADE hxe hye⊢;generalize(DyD.mk xn xs xe).num=X at *;generalize(DyD.mk yn ys ye).num=Y at *;obtain⟨xe0,xe1⟩:=hxe;obtain⟨ye0,ye1⟩:=hye;have ew:IntKind.i64.wrap (xe+ye)=xe+ye:=IntWalk.i64_in _ (by omega);clear hx hy hT;go_enter func97,ntmps97
 go_upto_region 1 with fail
 obtain⟨b,w1,hw,hb,B0,B1,B2,K1,HB⟩:=qcj w (LC0 xn xs xe) 24 (LC0 yn ys ye) 24 (LC0 false ⟨#[]⟩ 0) 24;rw[←hw,←hb];clear hw hb;obtain⟨c0,c1,c2⟩:=B0.out.c3;obtain⟨d0,d1,d2⟩:=B1.out.c3;have SK:Hid (∀W,Kept w1 W→(W.cell? ⟨b,0,none⟩=some (.bool xn)∧W.cell? ⟨b,1,none⟩=some (.string xs)∧W.cell? ⟨b,2,none⟩=some (.int .i64 xe))∧W.cell? ⟨b+1,0,none⟩=some (.bool yn)∧W.cell? ⟨b+1,1,none⟩=some (.string ys)∧W.cell? ⟨b+1,2,none⟩=some (.int .i64 ye)):=fun W h=>⟨(B0.out.kept h).c3,(B1.out.kept h).c3⟩
 go_upto_region 3 with (go_at_call 106;(with_reducible refine(ALL.out _ _ ?_).mono ?_);(exact Bx.new _ _ _ _ rfl);rintro e w3 ⟨rfl,hk3⟩;have K3:=qh ((Kept.new (Below.refl _ _) _).trans' hk3);clear hk3;obtain⟨c0,c1,c2⟩:=(B0.out.kept K3.out).c3)
 go_upto_region 4 with (go_at_call 109;(with_reducible refine(WX.out _).mono ?_);rintro e w4 ⟨p,rfl,hp,ip,hk4⟩)
 have K4:=qh (K3.out.trans' hk4);have hp1:=qh (Nat.le_trans K3.out.size hp);have IP4:=qh ip;have K4d:=qh (K4.out.trans' (Below.refl _ w4).drew);have hS0:=SK.out _ K4d.out;clear c0 c1 c2 d0 d1 d2 ip hp hk4 K3 ALL WX;refine qac (fun W=>(W.cell? ⟨b,0,none⟩=some (.bool xn)∧W.cell? ⟨b,1,none⟩=some (.string xs)∧W.cell? ⟨b,2,none⟩=some (.int .i64 xe))∧W.cell? ⟨b+1,0,none⟩=some (.bool yn)∧W.cell? ⟨b+1,1,none⟩=some (.string ys)∧W.cell? ⟨b+1,2,none⟩=some (.int .i64 ye)) [13,14] (by kernel_rfl) ?_ (fun hHeld=>?_)
 ·assumption
 refine wS 0 15 ?_;refine wS 1 16 ?_;refine wS 2 17 ?_;refine wS 5 20 ?_;refine wS 6 21 ?_;refine wS 7 22 ?_;refine wS 8 23 ?_;refine wS 9 24 ?_;refine oS 3 fun K hK=>?_;go_simp;(refine(WY.out _).mono ?_;rintro e w5 ⟨q,rfl,hq,iq,hk5⟩;have K5:=qh (K4d.out.trans' hk5);have hS5:=SK.out _ K5.out;have IP5:=qh (IP4.out.kept (Kept.trans' (Below.refl _ w4).drew hk5));have IQ5:=qh iq;clear iq hk5;have MUL:Hid (Calls prog 139 #[.pointer (some ⟨p,0,none⟩),.pointer (some ⟨p,0,none⟩),.pointer (some ⟨q,0,none⟩)] w5 fun e w'=>e=.returned (.pointer (some ⟨p,0,none⟩))∧qar w' p (X*Y) (4097+4097)∧w5.grownBy w' (some p)):=qo4 p q X Y 4097 4097 w5 (by omega) (by omega) IP5.out IQ5.out)
 refine hK.out _ _ ?_ (fun hHeld=>?_)
 ·assumption
 clear hK K;try simp only[Act.put,tdy]
 refine oS 4 fun K hK=>?_;go_simp;(refine MUL.out.mono ?_;rintro e w6 ⟨rfl,ip,hg6⟩;have K6:=qh (qaD K5.out hp1.out hg6);have hS6:=SK.out _ K6.out;have IP6:=qh (ip.more (j:=8194) (by omega));clear hg6 ip)
 refine hK.out _ _ ?_ (fun hHeld=>?_)
 ·assumption
 clear hK K;try simp only[Act.put,tdy]
 refine oS 10 fun K hK=>?_;go_simp;(refine(MADE.out _ _ (K1.out.trans' K6.out) IP6.out).mono ?_;rintro e w7 ⟨rfl,hk7⟩;have K7:=qh (K6.out.trans' hk7);have hS7:=SK.out _ K7.out)
 refine hK.out _ _ ?_ (fun hHeld=>?_)
 ·assumption
 clear hK K;try simp only[Act.put,tdy]
 refine wS 11 26 ?_;refine wS 12 27 ?_;obtain⟨e0,e1,e2⟩:=(B2.out.kept K7.out).c3;obtain⟨f0,f1,f2⟩:=(B2.out.kept K7.out).f3;refine eS 13 fun K hK=>?_;go_simp;refine hK.out _ _ ?_;clear hK K;try simp only[Act.put,tdy]
 refine eS 14 fun K hK=>?_;go_simp;refine hK.out _ _ ?_;clear hK K;try simp only[Act.put,tdy]
 refine dS ?_ _;go_wp2_with fail
 exact bodyPost_ret (v:=qai R) (by simp[results,results97,go_sem,e0,e1,e2,qai]) rfl ⟨rfl,(K1.out.trans' K7.out).qaO (by have:=HB.out;omega) _ _ _⟩
end
section
set_option maxHeartbeats 3200000
set_option maxRecDepth 100000
structure KB (w1 W:World):Prop where
 k:Kept w1 W
theorem KB.on {w1 W W':World} (h:KB w1 W) (hk:Kept W W'):KB w1 W':=⟨h.k.trans' hk⟩
theorem qcT {n t k:Nat} (ht:qbt n t) (h1:n<qls k):t≤8*k:=by
 rw[qoY]at h1;by_cases h2:t=0
 ·omega
 ·have h3:=Nat.lt_of_le_of_lt (ht.2 h2) h1
  rw[show(256:Nat)=2 ^ 8 by decide,←Nat.pow_mul]at h3;have:=(Nat.pow_lt_pow_iff_right (show 1<2 by omega)).1 h3;omega
theorem qdg (n:Nat): ∃p,qbt n p:=by
 by_cases h:n=0
 ·exact⟨0,by rw[h];exact qeX⟩
 ·exact⟨n.log2+1,Nat.lt_log2_self,fun _=>by rw[Nat.add_sub_cancel];exact Nat.log2_self_le h⟩
theorem qg1 (d:DyD) (t:Nat) (w:World) (hd:qae d=true) (h0:d.num≠0) (ht:qbt d.num.natAbs t):
  Calls prog 108 #[.agg #[.bool d.neg,.string d.n,.int .i64 d.e]] w fun en w'=>en=.returned (.tuple #[.int .i64 ((t:Int)-1+d.e),.bool true])∧Kept w w':=by
 have SX:=qh (fun W=>qcK d W hd);have WX:=qh (qcp d hd);have hxe:=(qaj hd).2.2.2;have hs1: ¬d.num.sign=0:=fun e=>h0 (Int.sign_eq_zero_iff_zero.1 e)
 have BL:Hid (∀W p,qar W p d.num 4097→Calls prog 149 #[.pointer (some ⟨p,0,none⟩)] W fun e w'=>e=.returned (.int .i64 (t:Int))∧w'=W):=fun W p h=>
  (qgr p d.num 4097 W h (by omega)).mono fun e w' ⟨t',h1,h2,h3,h4⟩=>⟨by rw[h1,h2.uniq ht],h4⟩
 have ht9:t≤8*16384:=qcT ht (qaj hd).1;obtain⟨xn,xs,xe⟩:=d;simp only at SX WX hxe hs1 BL⊢;generalize(DyD.mk xn xs xe).num=X at *;generalize X.sign=sg at *;obtain⟨xe0,xe1⟩:=hxe;have ew:IntKind.i64.wrap ((t:Int)-1+xe)=(t:Int)-1+xe:=IntWalk.i64_in _ (by omega);have ew2:IntKind.i64.wrap ((t:Int)-1)=(t:Int)-1:=IntWalk.i64_in _ (by omega);clear hd h0 ht;go_enter func108,ntmps108
 go_upto_region 1 with fail
 obtain⟨b,w1,hw,hb,B0,K1,HB⟩:=qa4 w (LC0 xn xs xe) 24;rw[←hw,←hb];clear hw hb;obtain⟨c0,c1,c2⟩:=B0.out.c3;go_wp2_with (go_at_call 20;(with_reducible refine(SX.out _).mono ?_);rintro e w4 ⟨rfl,hk4⟩)
 have K4:=qh hk4;have hS0:=(B0.out.kept (hk4.trans' (Below.refl _ w4).drew)).c3;refine qac (fun W=>W.cell? ⟨b,0,none⟩=some (.bool xn)∧W.cell? ⟨b,1,none⟩=some (.string xs)∧W.cell? ⟨b,2,none⟩=some (.int .i64 xe)) [7,8] (by kernel_rfl) ?_ (fun hHeld=>?_)
 ·assumption
 refine wS 0 7 ?_;refine wS 4 11 ?_;refine wS 5 12 ?_;refine oS 1 fun K hK=>?_;go_simp;(refine(WX.out _).mono ?_;rintro e w5 ⟨p,rfl,hp,ip,hk5⟩;have K5:=qh (K4.out.trans' ((Below.refl _ w4).drew.trans (hk5.mono (Nat.le_refl _))));have hS5:=(B0.out.kept K5.out).c3;have IP:=qh ip)
 refine hK.out _ _ ?_ (fun hHeld=>?_)
 ·assumption
 clear hK K;try simp only[Act.put,tdy]
 refine oS 2 fun K hK=>?_;go_simp;(refine(BL.out _ _ IP.out).mono ?_;rintro e w6 ⟨rfl,hw6⟩;subst hw6)
 refine hK.out _ _ ?_ (fun hHeld=>?_)
 ·assumption
 clear hK K;try simp only[Act.put,tdy]
 refine wS 3 10 ?_;refine wS 6 13 ?_;refine eS 7 fun K hK=>?_;go_simp;refine hK.out _ _ ?_;clear hK K;try simp only[Act.put,tdy]
 refine eS 8 fun K hK=>?_;go_simp;refine hK.out _ _ ?_;clear hK K;try simp only[Act.put,tdy]
 refine dS ?_ _;go_wp2_with fail
 go_ret2
 exact⟨rfl,K1.out.trans' K5.out⟩
theorem qlG (p r:Nat) (x y:Int) (k j:Nat) (W:World) (hk:k≤100000000) (hj:j≤100000000) (h:qar W p x k) (h':qar W r y j):
  Calls prog 111 #[.pointer (some ⟨p,0,none⟩),.pointer (some ⟨r,0,none⟩)] W fun e w'=>e=.returned (.int .i64 (qdt x y))∧Kept W w':=qox p r x y k j W h h' hk hj
theorem qii (x y:DyD) (w:World) (hx:qae x=true) (hy:qae y=true):
  Calls prog 69 #[.agg #[.bool x.neg,.string x.n,.int .i64 x.e],.agg #[.bool y.neg,.string y.n,.int .i64 y.e]] w fun en w'=>en=.returned (.tuple #[.int .i64 (qdk x y),.int .i64 0])∧Kept w w':=by
 have ALL:=qh (qfw x y hx hy);have SX:=qh (fun W=>qcK x W hx);have SY:=qh (fun W=>qcK y W hy);have SG:=qh (fun n W=>qnF n W);by_cases h1:x.num.sign≠y.num.sign∨x.num.sign=0
 ·rw [qhX h1]
  obtain⟨xn,xs,xe⟩:=x;obtain⟨yn,ys,ye⟩:=y;simp only at ALL SX SY⊢;obtain⟨sg,hsg⟩: ∃s,s=(DyD.mk xn xs xe).num.sign:=⟨_,rfl⟩
  obtain⟨sh,hsh⟩: ∃s,s=(DyD.mk yn ys ye).num.sign:=⟨_,rfl⟩
  rw[←hsg]at SX h1⊢;rw[←hsh]at SY h1⊢;have r1: -1≤sg∧sg≤1:=by rw[hsg];have:=Int.sign_trichotomy (DyD.mk xn xs xe).num;omega
  have r2: -1≤sh∧sh≤1:=by rw[hsh];have:=Int.sign_trichotomy (DyD.mk yn ys ye).num;omega
  have ew:IntKind.i64.wrap (sg-sh)=sg-sh:=IntWalk.i64_in _ (by omega);clear hsg hsh hx hy;go_enter func69,ntmps69
  go_upto_region 1 with fail
  obtain⟨b,w1,hw,hb,B0,B1,K1,HB⟩:=qa6 w (LC0 xn xs xe) 24 (LC0 yn ys ye) 24;rw[←hw,←hb];clear hw hb;obtain⟨c0,c1,c2⟩:=B0.out.c3;obtain⟨d0,d1,d2⟩:=B1.out.c3;have SK:Hid (∀W,Kept w1 W→(W.cell? ⟨b,0,none⟩=some (.bool xn)∧W.cell? ⟨b,1,none⟩=some (.string xs)∧W.cell? ⟨b,2,none⟩=some (.int .i64 xe))∧W.cell? ⟨b+1,0,none⟩=some (.bool yn)∧W.cell? ⟨b+1,1,none⟩=some (.string ys)∧W.cell? ⟨b+1,2,none⟩=some (.int .i64 ye)):=fun W h=>⟨(B0.out.kept h).c3,(B1.out.kept h).c3⟩
  go_upto_region 3 with (go_at_call 106;(with_reducible refine(ALL.out _ _ ?_).mono ?_);(exact Bx.new _ _ _ _ rfl);rintro e w3 ⟨rfl,hk3⟩;have K3:=qh ((Kept.new (Below.refl _ _) _).trans' hk3);clear hk3)
  clear c0 c1 c2 d0 d1 d2 ALL;refine wp_region_quiet (C:=(KB w1)) (by kernel_rfl) (by kernel_rfl) ?_ ?_
  ·exact⟨K3.out.trans' (Below.refl _ w3).drew⟩
  dsimp only[List.take];refine wQ (some 20) ?_ fun wr hw=>(by(obtain⟨⟨c0,c1,c2⟩,d0,d1,d2⟩:=SK.out _ hw.k);go_simp;(try with_reducible rfl))
  refine qdi (v:=?_) (f:=?_) (args:=?_) (some 21) rfl (by kernel_rfl) (fun wr hw=>?_) (fun wr hw=>?_) ?_;rotate_left 3
  ·(obtain⟨⟨c0,c1,c2⟩,d0,d1,d2⟩:=SK.out _ hw.k);go_simp;refine⟨?_,?_⟩<;>with_reducible rfl
  ·refine(SX.out wr).mono ?_;rintro e w' ⟨rfl,hk⟩;refine⟨?_,hw.on hk⟩;with_reducible rfl
  try simp only[Act.put,tdy]
  refine wQ (some 22) ?_ fun wr hw=>(by(obtain⟨⟨c0,c1,c2⟩,d0,d1,d2⟩:=SK.out _ hw.k);go_simp;(try with_reducible rfl))
  refine qdi (v:=?_) (f:=?_) (args:=?_) (some 23) rfl (by kernel_rfl) (fun wr hw=>?_) (fun wr hw=>?_) ?_;rotate_left 3
  ·(obtain⟨⟨c0,c1,c2⟩,d0,d1,d2⟩:=SK.out _ hw.k);go_simp;refine⟨?_,?_⟩<;>with_reducible rfl
  ·refine(SY.out wr).mono ?_;rintro e w' ⟨rfl,hk⟩;refine⟨?_,hw.on hk⟩;with_reducible rfl
  try simp only[Act.put,tdy]
  refine wQ (some 6) ?_ fun wr hw=>(by(obtain⟨⟨c0,c1,c2⟩,d0,d1,d2⟩:=SK.out _ hw.k);go_simp;(try with_reducible rfl))
  refine wQ (some 7) ?_ fun wr hw=>(by(obtain⟨⟨c0,c1,c2⟩,d0,d1,d2⟩:=SK.out _ hw.k);go_simp;(try with_reducible rfl))
  refine wpQuiet_nil ?_;intro wq hq;have K4:=qh hq.k;rcases h1 with h1|h1
  ·go_wp2_with (go_at_call 107;(with_reducible refine(SG.out _ _).mono ?_);rintro e w5 ⟨rfl,hw5⟩;subst hw5)
   go_ret2
   exact⟨rfl,K1.out.trans' K4.out⟩
  ·subst h1
   by_cases h2:(0:Int)=sh
   ·subst h2
    go_wp2_with (go_at_call 107;(with_reducible refine(SG.out _ _).mono ?_);rintro e w5 ⟨rfl,hw5⟩;subst hw5)
    go_ret2
    exact⟨rfl,K1.out.trans' K4.out⟩
   ·go_wp2_with (go_at_call 107;(with_reducible refine(SG.out _ _).mono ?_);rintro e w5 ⟨rfl,hw5⟩;subst hw5)
    go_ret2
    exact⟨by simp,K1.out.trans' K4.out⟩
 ·have h2:x.num.sign=y.num.sign:=by
   rcases Int.lt_trichotomy x.num.sign y.num.sign with h|h|h
   ·exact absurd (.inl (by omega)) h1
   ·exact h
   ·exact absurd (.inl (by omega)) h1
  have h3:x.num.sign≠0:=fun e=>h1 (.inr e);have hx0:x.num≠0:=fun e=>h3 (by rw[e];rfl);have hy0:y.num≠0:=fun e=>h3 (by rw[h2,e];rfl);obtain⟨p,hp⟩:=qdg x.num.natAbs;obtain⟨q,hq⟩:=qdg y.num.natAbs;have TX:=qh (fun W=>qg1 x p W hx hx0 hp);have TY:=qh (fun W=>qg1 y q W hy hy0 hq);have WX:=qh (qcp x hx);have WY:=qh (qcp y hy);have hxe:=(qaj hx).2.2.2;have hye:=(qaj hy).2.2.2;have hp9:p≤8*16384:=qcT hp (qaj hx).1;have hq9:q≤8*16384:=qcT hq (qaj hy).1;have HT:=qh (fun h=>qje h2 hx0 hp hq h);have HC:=qh (show qdk x y=qdt (x.num*2 ^ (x.e-min x.e y.e).toNat) (y.num*2 ^ (y.e-min x.e y.e).toNat)from rfl);rw[←h2]at SY;generalize qdk x y=R at *;obtain⟨xn,xs,xe⟩:=x;obtain⟨yn,ys,ye⟩:=y;simp only at ALL SX SY TX TY WX WY HT HC hxe hye h3⊢;clear h1 h2 hx0 hy0 hp hq hx hy;generalize(DyD.mk xn xs xe).num=X at *;generalize(DyD.mk yn ys ye).num=Y at *;have r1:X.sign= -1∨X.sign=1:=by have:=Int.sign_trichotomy X;omega
  generalize X.sign=sg at *;obtain⟨xe0,xe1⟩:=hxe;obtain⟨ye0,ye1⟩:=hye;obtain⟨P,hP⟩: ∃P:Int,P=p-1+xe:=⟨_,rfl⟩
  obtain⟨Q,hQ⟩: ∃Q:Int,Q=q-1+ye:=⟨_,rfl⟩
  rw[←hP]at TX;rw[←hQ]at TY;have hP1: -2000000≤P∧P≤2000000:=by omega
  have hQ1: -2000000≤Q∧Q≤2000000:=by omega
  have HT2:Hid (P≠Q→R=sg*(P-Q).sign):=fun h=>by
   rw[HT.out (by omega)];congr 2;omega
  clear HT hP hQ hp9 hq9;have e1:(sg != sg)=false:=by simp
  have hsg0:(sg==0)=false:=by simp;omega
  go_enter func69,ntmps69
  go_upto_region 1 with fail
  obtain⟨b,w1,hw,hb,B0,B1,K1,HB⟩:=qa6 w (LC0 xn xs xe) 24 (LC0 yn ys ye) 24;rw[←hw,←hb];clear hw hb;obtain⟨c0,c1,c2⟩:=B0.out.c3;obtain⟨d0,d1,d2⟩:=B1.out.c3;have SK:Hid (∀W,Kept w1 W→(W.cell? ⟨b,0,none⟩=some (.bool xn)∧W.cell? ⟨b,1,none⟩=some (.string xs)∧W.cell? ⟨b,2,none⟩=some (.int .i64 xe))∧W.cell? ⟨b+1,0,none⟩=some (.bool yn)∧W.cell? ⟨b+1,1,none⟩=some (.string ys)∧W.cell? ⟨b+1,2,none⟩=some (.int .i64 ye)):=fun W h=>⟨(B0.out.kept h).c3,(B1.out.kept h).c3⟩
  go_upto_region 3 with (go_at_call 106;(with_reducible refine(ALL.out _ _ ?_).mono ?_);(exact Bx.new _ _ _ _ rfl);rintro e w3 ⟨rfl,hk3⟩;have K3:=qh ((Kept.new (Below.refl _ _) _).trans' hk3);clear hk3)
  clear c0 c1 c2 d0 d1 d2 ALL;refine wp_region_quiet (C:=(KB w1)) (by kernel_rfl) (by kernel_rfl) ?_ ?_
  ·exact⟨K3.out.trans' (Below.refl _ w3).drew⟩
  dsimp only[List.take];refine wQ (some 20) ?_ fun wr hw=>(by(obtain⟨⟨c0,c1,c2⟩,d0,d1,d2⟩:=SK.out _ hw.k);go_simp;(try with_reducible rfl))
  refine qdi (v:=?_) (f:=?_) (args:=?_) (some 21) rfl (by kernel_rfl) (fun wr hw=>?_) (fun wr hw=>?_) ?_;rotate_left 3
  ·(obtain⟨⟨c0,c1,c2⟩,d0,d1,d2⟩:=SK.out _ hw.k);go_simp;refine⟨?_,?_⟩<;>with_reducible rfl
  ·refine(SX.out wr).mono ?_;rintro e w' ⟨rfl,hk⟩;refine⟨?_,hw.on hk⟩;with_reducible rfl
  try simp only[Act.put,tdy]
  refine wQ (some 22) ?_ fun wr hw=>(by(obtain⟨⟨c0,c1,c2⟩,d0,d1,d2⟩:=SK.out _ hw.k);go_simp;(try with_reducible rfl))
  refine qdi (v:=?_) (f:=?_) (args:=?_) (some 23) rfl (by kernel_rfl) (fun wr hw=>?_) (fun wr hw=>?_) ?_;rotate_left 3
  ·(obtain⟨⟨c0,c1,c2⟩,d0,d1,d2⟩:=SK.out _ hw.k);go_simp;refine⟨?_,?_⟩<;>with_reducible rfl
  ·refine(SY.out wr).mono ?_;rintro e w' ⟨rfl,hk⟩;refine⟨?_,hw.on hk⟩;with_reducible rfl
  try simp only[Act.put,tdy]
  refine wQ (some 6) ?_ fun wr hw=>(by(obtain⟨⟨c0,c1,c2⟩,d0,d1,d2⟩:=SK.out _ hw.k);go_simp;(try with_reducible rfl))
  refine wQ (some 7) ?_ fun wr hw=>(by(obtain⟨⟨c0,c1,c2⟩,d0,d1,d2⟩:=SK.out _ hw.k);go_simp;(try with_reducible rfl))
  refine wpQuiet_nil ?_;intro wq hq;have K4:=qh hq.k;clear SX SY hq K3;obtain⟨⟨c0,c1,c2⟩,d0,d1,d2⟩:=SK.out _ K4.out;by_cases hne:P=Q
  ·subst hne
   obtain⟨lo,hlo⟩: ∃lo,lo=min xe ye:=⟨_,rfl⟩
   have l1:(if xe<ye then xe else ye)=lo:=by rw[hlo];split<;>omega
   have l3:(if ye<xe then ye else xe)=lo:=by rw[hlo];split<;>omega
   have b1:lo≤xe:=by omega
   have b2:lo≤ye:=by omega
   have b4: -1048576≤lo:=by omega
   have b5:lo≤1048576:=by omega
   obtain⟨sx,hsx⟩: ∃s:Nat,(s:Int)=xe-lo:=⟨(xe-lo).toNat,by omega⟩
   obtain⟨sy,hsy⟩: ∃s:Nat,(s:Int)=ye-lo:=⟨(ye-lo).toNat,by omega⟩
   rw[←hlo,←hsx,←hsy,Int.toNat_natCast,Int.toNat_natCast]at HC;have x9:sx≤2097152:=by omega
   have y9:sy≤2097152:=by omega
   have u1:IntKind.u64.wrap (sx:Int)=sx:=by rw[IntKind.wrap_u64];omega
   have u2:IntKind.u64.wrap (sy:Int)=sy:=by rw[IntKind.wrap_u64];omega
   have u3:IntKind.i64.wrap (xe-lo)=sx:=by rw[IntWalk.i64_in _ (by omega),hsx]
   have u4:IntKind.i64.wrap (ye-lo)=sy:=by rw[IntWalk.i64_in _ (by omega),hsy]
   have u5:IntKind.i64.wrap (sx:Int)=sx:=IntWalk.i64_in _ (by omega);have u6:IntKind.i64.wrap (sy:Int)=sy:=IntWalk.i64_in _ (by omega);replace hlo:=hlo.symm;replace hsx:=hsx.symm;replace hsy:=hsy.symm
   go_upto_region 11 with (first
    |(go_at_call 108;(with_reducible refine(TX.out _).mono ?_);rintro e w5 ⟨rfl,hk5⟩;have K5:=qh (K4.out.trans' hk5);obtain⟨⟨c0,c1,c2⟩,d0,d1,d2⟩:=SK.out _ K5.out)
    |(go_at_call 108;(with_reducible refine(TY.out _).mono ?_);rintro e w6 ⟨rfl,hk6⟩;have K6:=qh (K5.out.trans' hk6);obtain⟨⟨c0,c1,c2⟩,d0,d1,d2⟩:=SK.out _ K6.out))
   clear TX TY K4 K5 hk5 hk6 HT2;go_upto_region 12 with (go_at_call 109;(with_reducible refine(WX.out _).mono ?_);rintro e w7 ⟨p,rfl,hp,ip,hk7⟩)
   have K7:=qh (K6.out.trans' hk7);have hp1:=qh (Nat.le_trans K6.out.size hp);obtain⟨⟨c0,c1,c2⟩,d0,d1,d2⟩:=SK.out _ K7.out;have IP:=qh ip;clear WX hk7 hp ip K6;go_upto_region 13 with (go_at_call 109;(with_reducible refine(WY.out _).mono ?_);rintro e w8 ⟨q,rfl,hq,iq,hk8⟩)
   have K8:=qh (K7.out.trans' hk8);have hne:p≠q:=by have:=IP.out.lt;omega
   have hne':q≠p:=fun e=>hne e.symm;have hq1:=qh (Nat.le_trans K7.out.size hq);have K8d:=qh (K8.out.trans' (Below.refl _ w8).drew);have IP8:=qh (IP.out.kept (hk8.trans' (Below.refl _ w8).drew));have IQ8:=qh (iq.kept (Below.refl _ w8).drew);have hS0:=SK.out _ K8d.out;clear WY hk8 hq iq K7 IP c0 c1 c2 d0 d1 d2
   have LX:Hid (∀W,qar W p X 4097→Calls prog 110 #[.pointer (some ⟨p,0,none⟩),.pointer (some ⟨p,0,none⟩),.int .u64 (sx:Int)] W fun e w'=>e=.returned (.pointer (some ⟨p,0,none⟩))∧qar w' p (X*2 ^ sx) 100000∧W.grownBy w' (some p)):=fun W h=>
    (qfI p X 4097 sx W (by omega) (by omega) h).mono fun e w' ⟨h1,h2,h3⟩=>⟨h1,h2.more (by omega),h3⟩
   have LY:Hid (∀W,qar W q Y 4097→Calls prog 110 #[.pointer (some ⟨q,0,none⟩),.pointer (some ⟨q,0,none⟩),.int .u64 (sy:Int)] W fun e w'=>e=.returned (.pointer (some ⟨q,0,none⟩))∧qar w' q (Y*2 ^ sy) 100000∧W.grownBy w' (some q)):=fun W h=>
    (qfI q Y 4097 sy W (by omega) (by omega) h).mono fun e w' ⟨h1,h2,h3⟩=>⟨h1,h2.more (by omega),h3⟩
   have CMP:Hid (∀W,qar W p (X*2 ^ sx) 100000→qar W q (Y*2 ^ sy) 100000→Calls prog 111 #[.pointer (some ⟨p,0,none⟩),.pointer (some ⟨q,0,none⟩)] W fun e w'=>e=.returned (.int .i64 R)∧Kept W w'):=fun W h h'=>by
    rw[HC.out];exact qlG p q _ _ 100000 100000 W (by omega) (by omega) h h'
   refine qac (fun W=>(W.cell? ⟨b,0,none⟩=some (.bool xn)∧W.cell? ⟨b,1,none⟩=some (.string xs)∧W.cell? ⟨b,2,none⟩=some (.int .i64 xe))∧W.cell? ⟨b+1,0,none⟩=some (.bool yn)∧W.cell? ⟨b+1,1,none⟩=some (.string ys)∧W.cell? ⟨b+1,2,none⟩=some (.int .i64 ye)) [17,18] (by kernel_rfl) ?_ (fun hHeld=>?_)
   ·assumption
   refine wS 0 63 ?_;refine wS 1 64 ?_;refine wS 2 65 ?_;refine wS 3 66 ?_;refine wS 4 67 ?_;refine wS 5 68 ?_;refine wS 6 69 ?_;refine wS 8 71 ?_;refine wS 9 72 ?_;refine wS 10 73 ?_;refine wS 11 74 ?_;refine wS 12 75 ?_;refine wS 13 76 ?_;refine wS 14 77 ?_;refine oS 7 fun K hK=>?_;go_simp;(refine(LX.out _ IP8.out).mono ?_;rintro e w9 ⟨rfl,ip,hg9⟩;have K9:=qh (qaD K8d.out hp1.out hg9);have hS9:=SK.out _ K9.out;have IQ9:=qh (IQ8.out.grown IP8.out hg9 hne');have IP9:=qh ip)
   refine hK.out _ _ ?_ (fun hHeld=>?_)
   ·assumption
   clear hK K;try simp only[Act.put,tdy]
   refine oS 15 fun K hK=>?_;go_simp;(refine(LY.out _ IQ9.out).mono ?_;rintro e w10 ⟨rfl,iq,hg10⟩;have K10:=qh (qaD K9.out hq1.out hg10);have hS10:=SK.out _ K10.out;have IP10:=qh (IP9.out.grown IQ9.out hg10 hne);have IQ10:=qh iq)
   refine hK.out _ _ ?_ (fun hHeld=>?_)
   ·assumption
   clear hK K;try simp only[Act.put,tdy]
   refine oS 16 fun K hK=>?_;go_simp;(refine(CMP.out _ IP10.out IQ10.out).mono ?_;rintro e w11 ⟨rfl,hk11⟩;have K11:=qh (K10.out.trans' hk11);have hS11:=SK.out _ K11.out)
   refine hK.out _ _ ?_ (fun hHeld=>?_)
   ·assumption
   clear hK K;try simp only[Act.put,tdy]
   refine eS 17 fun K hK=>?_;go_simp;refine hK.out _ _ ?_;clear hK K;try simp only[Act.put,tdy]
   refine eS 18 fun K hK=>?_;go_simp;refine hK.out _ _ ?_;clear hK K;try simp only[Act.put,tdy]
   refine dS ?_ _;go_wp2_with fail
   go_ret2
   exact⟨rfl,K1.out.trans' K11.out⟩
  ·have HR:=qh (HT2.out hne)
   have ew:IntKind.i64.wrap (P-Q)=P-Q:=IntWalk.i64_in _ (by omega);obtain⟨S,hS⟩: ∃S,S=(P-Q).sign:=⟨_,rfl⟩
   have hS1: -1≤S∧S≤1:=by rw[hS];have:=Int.sign_trichotomy (P-Q);omega
   rw[←hS]at HR;have SG2:Hid (∀W,Calls prog 107 #[.int .i64 (P-Q)] W fun en w'=>en=.returned (.int .i64 S)∧w'=W):=fun W=>by rw[hS];exact SG.out _ W
   have ew2:IntKind.i64.wrap (sg*S)=sg*S:=IntWalk.i64_in _ (by rcases r1 with rfl|rfl<;>omega);clear hS
   go_wp2_with (first
    |(go_at_call 108;(with_reducible refine(TX.out _).mono ?_);rintro e w5 ⟨rfl,hk5⟩;have K5:=qh (K4.out.trans' hk5);obtain⟨⟨c0,c1,c2⟩,d0,d1,d2⟩:=SK.out _ K5.out)
    |(go_at_call 108;(with_reducible refine(TY.out _).mono ?_);rintro e w6 ⟨rfl,hk6⟩;have K6:=qh (K5.out.trans' hk6))
    |(go_at_call 107;(with_reducible refine(SG2.out _).mono ?_);rintro e w7 ⟨rfl,hw7⟩;subst hw7))
   go_ret2
   exact⟨by rw[HR.out];rfl,K1.out.trans' K6.out⟩
end
section
set_option maxHeartbeats 1600000
set_option maxRecDepth 100000
theorem qeb (d:DyD) (w:World) (hd:d.ok):Calls prog 73 #[.agg #[.bool d.neg,.string d.n,.int .i64 d.e]] w fun e w'=>e=.returned (.bool (qae d))∧Kept w w':=by
 obtain⟨neg,s,x⟩:=d;obtain⟨hs,hx0,hx1⟩:=hd;simp only at hs hx0 hx1⊢;by_cases h0:s.size=0
 ·have hE:=qcS s h0
  subst hE;by_cases hx:x=0
  ·subst hx
   cases neg with
   |false=>
    go_enter func73,ntmps73
    go_wp2
    go_ret
    exact⟨rfl,Kept.new (Below.refl _ _) _⟩
   |true=>
    go_enter func73,ntmps73
    go_wp2
    go_ret
    exact⟨rfl,Kept.new (Below.refl _ _) _⟩
  ·have HX:=qh hx
   go_enter func73,ntmps73
   go_wp2
   go_ret
   exact⟨qbA (by simp[qae,HX.out]),Kept.new (Below.refl _ _) _⟩
 ·have hp:0<s.size:=by omega
  have hd0:s.data.toList≠[]:=by
   intro h;exact h0 (by rw[←ByteArray.size_data,←Array.length_toList,h];rfl)
  have hz:s.toList=[]↔False:=by
   rw[Lib.toList_data];exact⟨fun h=>hd0 h,False.elim⟩
  have hz1:s.toList.isEmpty=false:=by
   cases h:s.toList with
   |nil=>exact(hz.1 h).elim
   |cons x l=>rfl
  have hne:s≠⟨#[]⟩:=fun h=>h0 (by rw[h];rfl);have hpI:(0:Int)<s.size:=by omega
  have k1:(0:Int)≤(s.size:Int)-1:=by omega
  have k2:(s.size:Int)-1<s.size:=by omega
  have k3:((s.size:Int)-1).toNat=s.size-1:=by omega
  have k4:IntKind.i64.wrap ((s.size:Int)-1)=(s.size:Int)-1:=IntWalk.i64_in _ (by unfold maxLen at hs;omega);have k5:s.size-1<s.size:=by omega
  have HD:Hid (qae ⟨neg,s,x⟩=(decide (s.size≤16384)&&(decide (s[0]≠0)&&(decide ((s[s.size-1]'k5).toNat % 2=1)&&(decide (-1048576≤x)&&decide (x≤1048576)))))):=by
   have hlen:s.data.toList.length=s.size:=by rw[Array.length_toList,ByteArray.size_data]
   show _=_;rw[Bool.eq_iff_iff];simp[qae,qf6,hd0,qh0 s hp,head_data s hp,hlen,and_assoc]
  obtain⟨y,hy⟩: ∃y,s[s.size-1]'k5=y:=⟨_,rfl⟩
  obtain⟨u,hu⟩: ∃u,s[0]=u:=⟨_,rfl⟩
  rw[hy,hu]at HD;by_cases a1:s.size≤16384
  ·have i1:(s.size:Int)≤16384:=by omega
   by_cases a2:u=0
   ·subst a2
    go_enter func73,ntmps73
    go_wp2_with fail
    go_ret
    exact⟨qbA (by rw[HD.out];simp),Kept.new (Below.refl _ _) _⟩
   ·have i2:((u.toNat:Int)==0)=false:=by
     rw[beq_eq_false_iff_ne];intro h;exact a2 (UInt8.toNat_inj.1 (by simpa using h))
    have i2': ¬(u.toNat:Int)=0:=by simpa using i2
    have i4:((u.toNat:Int) != 0)=true:=by simpa using i2'
    have hyb:=y.toNat_lt;obtain⟨n,hn⟩: ∃n,n=y.toNat:=⟨_,rfl⟩
    have HA:=qh a2;by_cases a3:y.toNat % 2=1
    ·have i3:(y.toNat:Int) % 2=1:=by omega
     by_cases a4: -1048576≤x
     ·by_cases a5:x≤1048576
      ·go_enter func73,ntmps73
       go_wp2_with fail
       go_ret
       exact⟨qbA (by rw[HD.out];rw[decide_eq_true HA.out];simp[a1,a3,a4,a5];try omega),Kept.new (Below.refl _ _) _⟩
      ·go_enter func73,ntmps73
       go_wp2_with fail
       go_ret
       exact⟨qbA (by rw[HD.out];simp;omega),Kept.new (Below.refl _ _) _⟩
     ·go_enter func73,ntmps73
      go_wp2_with fail
      go_ret
      exact⟨qbA (by rw[HD.out];simp;omega),Kept.new (Below.refl _ _) _⟩
    ·have i3: ¬(y.toNat:Int) % 2=1:=by omega
     go_enter func73,ntmps73
     go_wp2_with fail
     go_ret
     exact⟨qbA (by rw[HD.out];simp;omega),Kept.new (Below.refl _ _) _⟩
  ·have i1: ¬(s.size:Int)≤16384:=by omega
   go_enter func73,ntmps73
   go_wp2_with fail
   go_ret
   exact⟨qbA (by rw[HD.out];simp;omega),Kept.new (Below.refl _ _) _⟩
theorem qie (d:DyD) (w:World) (hd:qae d=true):Calls prog 122 #[.agg #[.bool d.neg,.string d.n,.int .i64 d.e]] w fun en w'=>en=.returned (.int .i64 d.num.sign)∧Kept w w':=by
 by_cases h0:d.num=0
 ·obtain rfl:=(qaj hd).2.1 h0
  show Calls prog 122 #[.agg #[.bool false,.string ⟨#[]⟩,.int .i64 0]] w fun en w'=>en=.returned (.int .i64 0)∧Kept w w';go_enter func122,ntmps122
  go_wp2_with fail
  go_ret
  exact⟨rfl,Kept.new (Below.refl _ _) _⟩
 ·have hne:=qcA hd h0
  have hneg:=qcu hd
  have HS:=qh (show d.num.sign=if d.neg then -1 else 1 by
   rw[hneg];rcases Int.lt_trichotomy d.num 0 with h|h|h
   ·rw [Int.sign_eq_neg_one_of_neg h,decide_eq_true h];rfl
   ·exact absurd h h0
   ·rw [Int.sign_eq_one_of_pos h,decide_eq_false (by omega)];rfl)
  rw[HS.out];obtain⟨neg,s,x⟩:=d;simp only at hne⊢;have hd0:s.data.toList≠[]:=fun h=>hne ((qbH s).1 h)
  have hz:s.toList=[]↔False:=by
   rw[Lib.toList_data];exact⟨fun h=>hd0 h,False.elim⟩
  have hz1:s.toList.isEmpty=false:=by
   cases h:s.toList with
   |nil=>exact(hz.1 h).elim
   |cons x l=>rfl
  clear HS hneg h0 hd hd0;cases neg with
  |false=>
   go_enter func122,ntmps122
   go_wp2_with fail
   go_ret
   exact⟨rfl,Kept.new (Below.refl _ _) _⟩
  |true=>
   go_enter func122,ntmps122
   go_wp2_with fail
   go_ret
   exact⟨rfl,Kept.new (Below.refl _ _) _⟩
theorem qhb (d:DyD) (w:World) (hd:qae d=true):Calls prog 159 #[.agg #[.bool d.neg,.string d.n,.int .i64 d.e]] w fun en w'=>en=.returned (dyV (negS d))∧Kept w w':=by
 by_cases h0:d.num=0
 ·obtain rfl:=(qaj hd).2.1 h0
  show Calls prog 159 #[.agg #[.bool false,.string ⟨#[]⟩,.int .i64 0]] w fun en w'=>en=.returned (dyV zD)∧Kept w w';go_enter func159,ntmps159
  go_upto_region 1 with fail
  obtain⟨b,w1,hw,hb,B0,B1,K1,HB⟩:=qa6 w (LC0 false ⟨#[]⟩ 0) 24 (LC0 false ⟨#[]⟩ 0) 24;rw[←hw,←hb];clear hw hb;obtain⟨c0,c1,c2⟩:=B0.out.c3;obtain⟨d0,d1,d2⟩:=B1.out.c3;obtain⟨f0,f1,f2⟩:=B1.out.f3;go_wp2_with fail
  exact bodyPost_ret (v:=dyV zD) (by simp[results,results159,go_sem,d0,d1,d2,dyV,zD]) rfl ⟨rfl,K1.out.qaO (by have:=HB.out;omega) _ _ _⟩
 ·have hne:=qcA hd h0
  have HS:=qh (show negS d=⟨!d.neg,d.n,d.e⟩ by unfold negS;rw[if_neg h0]);rw[HS.out];obtain⟨neg,s,x⟩:=d;simp only at hne⊢;have hd0:s.data.toList≠[]:=fun h=>hne ((qbH s).1 h)
  have hz:s.toList=[]↔False:=by
   rw[Lib.toList_data];exact⟨fun h=>hd0 h,False.elim⟩
  have hz1:s.toList.isEmpty=false:=by
   cases h:s.toList with
   |nil=>exact(hz.1 h).elim
   |cons x l=>rfl
  clear HS h0 hd hd0;go_enter func159,ntmps159
  go_upto_region 1 with fail
  obtain⟨b,w1,hw,hb,B0,B1,K1,HB⟩:=qa6 w (LC0 neg s x) 24 (LC0 false ⟨#[]⟩ 0) 24;rw[←hw,←hb];clear hw hb;obtain⟨c0,c1,c2⟩:=B0.out.c3;obtain⟨e0,e1,e2⟩:=B0.out.f3;obtain⟨d0,d1,d2⟩:=B1.out.c3;obtain⟨f0,f1,f2⟩:=B1.out.f3;go_wp2_with fail
  exact bodyPost_ret (v:=dyV ⟨!neg,s,x⟩) (by simp[results,results159,go_sem,d0,d1,d2,dyV]) rfl ⟨rfl,(K1.out.set HB.out _ _).qaO (by have:=HB.out;omega) _ _ _⟩
theorem qm3 {d:DyD} (h:qae d=true):d.n.data.toList.head? ≠some 0:=by
 rcases qdQ h with rfl|⟨h1,-⟩
 ·decide
 ·exact h1
theorem qkR {d:DyD} (hd:qae d=true) (w:World):Calls prog 124 #[.string d.n] w fun e w'=> ∃A c l,e=.returned (.slice A l.length c)∧l.length≤c∧l.length≤16384∧Row w' A (qaV l)∧D8 l d.num.natAbs∧Kept w w':=by
 have hs:=qdB hd;refine(qlN d.n w (by omega)).mono ?_;rintro e w' ⟨v,rfl,ho,hk⟩;obtain⟨A,c,rfl,hnc,hcm,hrow,-,-⟩:=ho.form;have hl:=qfo d.n;exact⟨A,c,ofL d.n,by rw[hl],by omega,by omega,hrow,by rw[qdP];exact qlQ (qm3 hd),hk⟩
theorem qio (neg:Bool) (n:Nat) (z e:Int) (w:World) (hn:n<18446744073709551616) (hz:z.natAbs=n) (hneg:z≠0→neg=decide (z<0)) (he:e.natAbs≤1000000000):
  Calls prog 156 (LC0 neg (qa1 n) e).toArray w fun en w'=>en=.returned (qai (qbb z e))∧Kept w w':=by
 have hsz:(qa1 n).size≤8:=(qhq n 8).2 hn
 have hh:(qa1 n).data.toList.head? ≠some 0:=by
  show(qaB n).toArray.toList.head? ≠some 0;rw[List.toList_toArray];exact qgy n
 have OF:Hid (∀W,Kept w W→Calls prog 124 #[.string (qa1 n)] W fun e w'=> ∃A c l,e=.returned (.slice A l.length c)∧l.length≤c∧l.length≤8∧Row w' A (qaV l)∧D8 l n∧Kept W w'):=fun W hk=>by
  refine(qlN (qa1 n) W (by omega)).mono ?_;rintro e w' ⟨v,rfl,ho,hk⟩;obtain⟨A,c,rfl,hnc,hcm,hrow,-,-⟩:=ho.form;have hl:=qfo (qa1 n);have hv:=qlQ hh;rw[qgs]at hv;exact⟨A,c,ofL (qa1 n),by rw[hl],by omega,by omega,hrow,hv,hk⟩
 have FIT:Hid (∀W A c (l:List Nat),l.length≤8→l.length≤c→Row W A (qaV l)→D8 l n→Calls prog 135 #[.bool neg,.slice A l.length c,.int .i64 e] W fun en w'=>en=.returned (qai (qbb z e))∧Kept W w'):=fun W A c l h1 h2 h3 h4=>
  qjH neg A c l n z e W (by omega) h3 h2 h4 hz hneg he
 generalize qbb z e=R at *
 have hgo:(qa1 n).size=0∨(0<(qa1 n).size∧∃u:UInt8,(qa1 n).data.toList.head? =some u∧((u.toNat:Int)==0)=false):=by
  by_cases h:(qa1 n).size=0
  ·exact .inl h
  ·refine .inr ⟨by omega,_,head_data _ (by omega),?_⟩
   rw[head_data _ (by omega)]at hh;rw[beq_eq_false_iff_ne];intro e;exact hh (by congr 1;exact UInt8.toNat_inj.1 (by simpa using e))
 generalize qa1 n=s at *;clear hn hz hneg hh;rcases hgo with h0|⟨hp,u,hu,hu0⟩
 ·have hE:=qcS s h0
  subst hE;go_enter func156,ntmps156
  go_upto_region 1 with fail
  obtain⟨b,w1,hw,hb,B0,K1,HB⟩:=qa4 w (LC0 false ⟨#[]⟩ 0) 24;rw[←hw,←hb];clear hw hb
  go_wp2_with (first
   |(go_at_call 124;(with_reducible refine(OF.out _ K1.out).mono ?_);rintro e w2 ⟨A,c,l,rfl,h1,h2,h3,h4,hk2⟩;have F1:=qh (FIT.out w2 A c l h2 h1 h3 h4);clear h3 h4 h1 h2)
   |(go_at_call 135;(with_reducible refine F1.out.mono ?_);rintro e w3 ⟨rfl,hk3⟩;have K3:=qh ((K1.out.trans' hk2).trans' hk3);have B3:=qh ((B0.out.kept hk2).kept hk3);obtain⟨c0,c1,c2⟩:=B3.out.c3;obtain⟨f0,f1,f2⟩:=B3.out.f3))
  exact bodyPost_ret (v:=qai R) (by simp[results,results156,go_sem,c0,c1,c2,qai]) rfl ⟨rfl,K3.out.qaO HB.out _ _ _⟩
 ·have hs0:s[0]=u:=by
   have:=head_data s hp;rw[hu]at this;exact(Option.some.inj this).symm
  have hpI:(0:Int)<s.size:=by omega
  have h16: ¬(16384:Int)<s.size:=by omega
  have HU:=qh hu;clear hu;go_enter func156,ntmps156
  go_upto_region 1 with fail
  obtain⟨b,w1,hw,hb,B0,K1,HB⟩:=qa4 w (LC0 false ⟨#[]⟩ 0) 24;rw[←hw,←hb];clear hw hb
  go_wp2_with (first
   |(go_at_call 124;(with_reducible refine(OF.out _ K1.out).mono ?_);rintro e w2 ⟨A,c,l,rfl,h1,h2,h3,h4,hk2⟩;have F1:=qh (FIT.out w2 A c l h2 h1 h3 h4);clear h3 h4 h1 h2)
   |(go_at_call 135;(with_reducible refine F1.out.mono ?_);rintro e w3 ⟨rfl,hk3⟩;have K3:=qh ((K1.out.trans' hk2).trans' hk3);have B3:=qh ((B0.out.kept hk2).kept hk3);obtain⟨c0,c1,c2⟩:=B3.out.c3;obtain⟨f0,f1,f2⟩:=B3.out.f3))
  exact bodyPost_ret (v:=qai R) (by simp[results,results156,go_sem,c0,c1,c2,qai]) rfl ⟨rfl,K3.out.qaO HB.out _ _ _⟩
end
theorem qaM (b:Nat) (w:World):(callFunc 82 #[.float .f64 b]).run prog w=.ok (.value (.int .u64 b)) w:=by
 exact(Go.run_callFunc_extern (e:=Extern.MathFloatBits.float64bits) func82 (by kernel_rfl) (by kernel_rfl) (by kernel_rfl) (by kernel_rfl) _ w).trans rfl
theorem qaN (n:Int) (w:World):(callFunc 86 #[.int .u64 n]).run prog w=.ok (.value (.float .f64 n.toNat)) w:=by
 exact(Go.run_callFunc_extern (e:=Extern.MathFloatBits.float64frombits) func86 (by kernel_rfl) (by kernel_rfl) (by kernel_rfl) (by kernel_rfl) _ w).trans rfl
theorem qeu {x y:Nat} (hx:x<18446744073709551616) (hy:y<18446744073709551616):bits .and .u64 (x:Int) (y:Int)=((x &&& y:Nat):Int):=by
 have h1:BitVec.ofInt 64 (x:Int)=BitVec.ofNat 64 x:=by rw[BitVec.ofInt_natCast]
 have h2:BitVec.ofInt 64 (y:Int)=BitVec.ofNat 64 y:=by rw[BitVec.ofInt_natCast]
 have h3:(BitVec.ofInt 64 (x:Int) &&& BitVec.ofInt 64 (y:Int)).toNat=x &&& y:=by
  rw[h1,h2,BitVec.toNat_and,BitVec.toNat_ofNat,BitVec.toNat_ofNat,Nat.mod_eq_of_lt hx,Nat.mod_eq_of_lt hy]
 have h4:x &&& y≤x:=Nat.and_le_left;show IntKind.u64.wrap (((BitVec.ofInt 64 (x:Int) &&& BitVec.ofInt 64 (y:Int)).toNat:Nat):Int)=_;rw[h3];exact IntWalk.u64_in _ (by omega)
theorem qmk {x:Nat} (hx:x<18446744073709551616):x &&& 2 ^ 63=if x<SG then 0 else 2 ^ 63:=by
 refine Nat.eq_of_testBit_eq fun i=>?_;rw[Nat.testBit_and,Nat.testBit_two_pow];by_cases hi:63=i
 ·subst hi
  by_cases h:x<SG
  ·rw [if_pos h,Nat.testBit_lt_two_pow (show x<2 ^ 63 from h)];simp
  ·rw [if_neg h]
   have h1:x / 2 ^ 63<2:=Nat.div_lt_of_lt_mul (by omega);have h2:1≤x / 2 ^ 63:=(Nat.le_div_iff_mul_le (by decide)).2 (by unfold SG at h;omega);have h3:x / 2 ^ 63=1:=by omega
   rw[Nat.testBit_eq_decide_div_mod_eq,h3];decide
 ·by_cases h:x<SG
  ·simp [h,hi]
  ·rw [if_neg h,Nat.testBit_two_pow];simp[hi]
theorem qi9 {x:Nat} (hx:x<18446744073709551616):bits .andNot .u64 (x:Int) 9223372036854775808=((qd8 x:Nat):Int):=by
 have h1:BitVec.ofInt 64 (x:Int)=BitVec.ofNat 64 x:=by rw[BitVec.ofInt_natCast]
 have h3:(BitVec.ofInt 64 (x:Int) &&& ~~~(BitVec.ofInt 64 9223372036854775808)).toNat=qd8 x:=by
  have h5: ~~~(BitVec.ofInt 64 9223372036854775808)=BitVec.ofNat 64 (2 ^ 63-1):=by decide
  rw[h1,h5,BitVec.toNat_and,BitVec.toNat_ofNat,BitVec.toNat_ofNat,Nat.mod_eq_of_lt hx,Nat.mod_eq_of_lt (by decide),Nat.and_two_pow_sub_one_eq_mod];rfl
 have h4:qd8 x≤x:=Nat.mod_le _ _;show IntKind.u64.wrap (((BitVec.ofInt 64 (x:Int) &&& ~~~(BitVec.ofInt 64 9223372036854775808)).toNat:Nat):Int)=_;rw[h3];exact IntWalk.u64_in _ (by omega)
theorem qaw {P:Program} (x:Nat) (w:World):(Op.unary .neg (.float .f64 x)).run P w=.ok (.float .f64 (qp6 x)) w:=rfl
theorem qaf {P:Program} {w:World} {a:Addr} {m:Mode} (k:FloatKind) (b:Nat):(store a (.float k b) m).run P w=stored P w a (.float k b) m:=run_store P w a _ m rfl
theorem qad {P:Program} {w:World} {a:Addr} {m:Mode} (k:FloatKind) (b c:Nat):(store a (.complex k b c) m).run P w=stored P w a (.complex k b c) m:=run_store P w a _ m rfl
end Go.Proofs.YtfdnledkcongaaaGreatDoor
