/- Texts of one claim laid together: ZL, Mem, Bx, SqB, Held, QuietR, HeldR, HeldS, QuietT, SqH, RangeO, RangeU, Big, OwnP, WidA. -/
import Derived.WalkKit
import Derived.WalkSpells
import Derived.WalkLawsBesides
import Derived.Maps.AppendAt
import Derived.ArgAppend
import Derived.Lib.SlBytesConst
import Derived.Lib.ConvBytes
import Derived.StillTailTactics
import Derived.Deep.AppendLies
import Derived.Deep.Draws
import Derived.Deep.RegionHeld3
import Derived.Sort.BigQuietIn
import Derived.Deep.Quiet
import Derived.RangeFuncNested
import Derived.RangeFuncBound
import Derived.OwnWalkIn
import Derived.Deep.DeepCutAuto
import Derived.Test.YtfdnledkcongaaaGreatDoorRows
import Derived.Deep.LoopGhost
import Derived.Deep.QuietTactic
import Derived.BigQuiet
set_option linter.all false
namespace Go.Proofs.YtfdnledkcongaaaGreatDoor
open Go.RowKit Go.Proofs.Tryz
abbrev ZL0 :List Value:=[.bool false,.string ⟨#[]⟩,.int .i64 0,.bool false,.string ⟨#[]⟩,.int .i64 0]
abbrev ZL1 :List Value:=[.bool false,.string ⟨#[]⟩,.int .i64 0,.bool false,.string ⟨#[]⟩,.int .i64 0,.bool false,.string ⟨#[]⟩,.int .i64 0,.bool false,.string ⟨#[]⟩,.int .i64 0,.bool false,.string ⟨#[]⟩,.int .i64 0,.bool false,.string ⟨#[]⟩,.int .i64 0,.bool false,.string ⟨#[]⟩,.int .i64 0,.bool false,.string ⟨#[]⟩,.int .i64 0]
abbrev ZL2 :List Value:=[.bool false,.string ⟨#[]⟩,.int .i64 0,.bool false,.string ⟨#[]⟩,.int .i64 0,.int .i64 0,.bool false,.string ⟨#[]⟩,.int .i64 0,.bool false,.string ⟨#[]⟩,.int .i64 0,.int .i64 0,.bool false,.string ⟨#[]⟩,.int .i64 0,.bool false,.string ⟨#[]⟩,.int .i64 0,.int .i64 0,.bool false,.string ⟨#[]⟩,.int .i64 0,.bool false,.string ⟨#[]⟩,.int .i64 0,.int .i64 0]
abbrev ZL3 :List Value:=[.complex .f64 0 0,.float .f64 0,.complex .f64 0 0,.float .f64 0,.complex .f64 0 0,.float .f64 0,.complex .f64 0 0,.float .f64 0]
abbrev ZL4 :List Value:=[.bool false,.string ⟨#[]⟩,.int .i64 0,.bool false,.string ⟨#[]⟩,.int .i64 0,.int .i64 0]
abbrev ZL5 :List Value:=[.bool false,.string ⟨#[]⟩,.int .i64 0,.bool false,.string ⟨#[]⟩,.int .i64 0,.bool false,.string ⟨#[]⟩,.int .i64 0]
abbrev ZL6 :List Value:=[.int .i64 0,.bool false,.string ⟨#[]⟩,.int .i64 0,.bool false,.string ⟨#[]⟩,.int .i64 0,.bool false,.string ⟨#[]⟩,.int .i64 0,.float .f64 0,.float .f64 0]
abbrev LC0 (x0:Bool) (x1:ByteArray) (x2:Int):List Value:=[.bool x0,.string x1,.int .i64 x2]
abbrev LC1 (x0:Bool) (x1:ByteArray) (x2:Int) (x3:Bool) (x4:ByteArray) (x5:Int):List Value:=[.bool x0,.string x1,.int .i64 x2,.bool x3,.string x4,.int .i64 x5]
abbrev LC2 (x0:Bool) (x1:ByteArray) (x2:Int) (x3:Bool) (x4:ByteArray) (x5:Int) (x6:Bool) (x7:ByteArray) (x8:Int) (x9:Bool) (x10:ByteArray) (x11:Int):List Value:=[.bool x0,.string x1,.int .i64 x2,.bool x3,.string x4,.int .i64 x5,.bool x6,.string x7,.int .i64 x8,.bool x9,.string x10,.int .i64 x11]
abbrev LC3 (x0:Bool) (x1:ByteArray) (x2:Int) (x3:Bool) (x4:ByteArray) (x5:Int) (x6:Int):List Value:=[.bool x0,.string x1,.int .i64 x2,.bool x3,.string x4,.int .i64 x5,.int .i64 x6]
abbrev LC4 (x0:Bool) (x1:ByteArray) (x2:Int) (x3:Bool) (x4:ByteArray) (x5:Int) (x6:Bool) (x7:ByteArray) (x8:Int) (x9:Bool) (x10:ByteArray) (x11:Int) (x12:Bool) (x13:ByteArray) (x14:Int) (x15:Bool) (x16:ByteArray) (x17:Int) (x18:Bool) (x19:ByteArray) (x20:Int) (x21:Bool) (x22:ByteArray) (x23:Int):List Value:=[.bool x0,.string x1,.int .i64 x2,.bool x3,.string x4,.int .i64 x5,.bool x6,.string x7,.int .i64 x8,.bool x9,.string x10,.int .i64 x11,.bool x12,.string x13,.int .i64 x14,.bool x15,.string x16,.int .i64 x17,.bool x18,.string x19,.int .i64 x20,.bool x21,.string x22,.int .i64 x23]
abbrev LC5 (x0:Bool) (x1:ByteArray) (x2:Int) (x3:Bool) (x4:ByteArray) (x5:Int) (x6:Int) (x7:Bool) (x8:ByteArray) (x9:Int) (x10:Bool) (x11:ByteArray) (x12:Int) (x13:Int) (x14:Bool) (x15:ByteArray) (x16:Int) (x17:Bool) (x18:ByteArray) (x19:Int) (x20:Int) (x21:Bool) (x22:ByteArray) (x23:Int) (x24:Bool) (x25:ByteArray) (x26:Int) (x27:Int):List Value:=[.bool x0,.string x1,.int .i64 x2,.bool x3,.string x4,.int .i64 x5,.int .i64 x6,.bool x7,.string x8,.int .i64 x9,.bool x10,.string x11,.int .i64 x12,.int .i64 x13,.bool x14,.string x15,.int .i64 x16,.bool x17,.string x18,.int .i64 x19,.int .i64 x20,.bool x21,.string x22,.int .i64 x23,.bool x24,.string x25,.int .i64 x26,.int .i64 x27]
section
theorem qh {p:Prop} (h:p):Hid p:=h
abbrev Kept (w w':World):Prop:=Below w.heap.size w w'
theorem Kept.cells {w w':World} (h:Kept w w'): ∀b o,b<w.heap.size→w'.cell? ⟨b,o,none⟩=w.cell? ⟨b,o,none⟩:=fun _ _ hb=>h.cell (p:=⟨_,_,none⟩) hb
theorem Kept.thaw {w w':World} (h:Kept w w'): ∀b o,b<w.heap.size→w'.frozen? ⟨b,o,none⟩=w.frozen? ⟨b,o,none⟩:=fun _ _ hb=>h.frozen (p:=⟨_,_,none⟩) hb
theorem Kept.trans' {a b c:World} (h:Kept a b) (k:Kept b c):Kept a c:=h.trans (k.mono h.size)
theorem qaC {B:Nat} {a w:World} (h:Below B a w) (n:Nat):Below B a (w.drewN n):=⟨h.os,h.tape,h.output,h.size,h.block⟩
theorem lt_of_cell {w:World} {b o:Nat} {v:Value} (h:w.cell? ⟨b,o,none⟩=some v):b<w.heap.size:=by
 rcases Nat.lt_or_ge b w.heap.size with hlt|hge
 ·exact hlt
 ·simp [World.cell?,Array.getElem?_eq_none hge]at h
def Row (w:World) (A:Option Addr) (xs:List Value):Prop:=
 xs=[]∨∃b off,A=some ⟨b,off,none⟩∧∀k u,xs[k]? =some u→w.cell? ⟨b,off+k,none⟩=some u
section
variable {w w' : World} {A : Option Addr} {xs : List Value}
theorem Row.nil :Row w A []:=.inl rfl
theorem Row.keep (h:Row w A xs) (hk: ∀b o,b<w.heap.size→w'.cell? ⟨b,o,none⟩=w.cell? ⟨b,o,none⟩):Row w' A xs:=by
 rcases h with h|⟨b,off,hA,hc⟩
 ·exact .inl h
 ·exact .inr ⟨b,off,hA,fun k u hu=>(hk _ _ (lt_of_cell (hc k u hu))).trans (hc k u hu)⟩
theorem Row.kept (h:Row w A xs) (hk:Kept w w'):Row w' A xs:=h.keep hk.cells
theorem Row.at_ (h:Row w A xs) {k:Nat} (hk:k<xs.length): ∃b off,A=some ⟨b,off,none⟩∧w.cell? ⟨b,off+k,none⟩=some xs[k]:=by
 rcases h with h|⟨b,off,hA,hc⟩
 ·subst h;simp at hk
 ·exact⟨b,off,hA,hc k _ (List.getElem?_eq_getElem hk)⟩
theorem Row.take (h:Row w A xs) (k:Nat):Row w A (xs.take k):=by
 rcases h with h|⟨b,off,hA,hc⟩
 ·subst h;exact .inl (by simp)
 ·refine .inr ⟨b,off,hA,fun j u hu=>?_⟩
  rw[List.getElem?_take]at hu;split at hu
  ·exact hc j u hu
  ·cases hu
theorem Row.drop (h:Row w A xs) (k:Nat):Row w (A.map (·.add k)) (xs.drop k):=by
 rcases h with h|⟨b,off,hA,hc⟩
 ·subst h;exact .inl (by simp)
 ·subst hA
  refine .inr ⟨b,off+k,?_,fun j u hu=>?_⟩
  ·simp only[Option.map_some,Addr.add];split<;>simp_all
  ·rw [List.getElem?_drop]at hu
   rw[Nat.add_assoc];exact hc _ u hu
theorem Row.grown {row:Option Nat} (h:Row w A xs) (hg:w.grownBy w' row) (hne: ∀b off,A=some ⟨b,off,none⟩→some b≠row):Row w' A xs:=by
 rcases h with h|⟨b,off,hA,hc⟩
 ·exact .inl h
 ·refine .inr ⟨b,off,hA,fun k v hv=>?_⟩
  have h0:=hc k v hv;rw[hg.cell_far ⟨b,off+k,none⟩ (lt_of_cell h0) (hne b off hA)];exact h0
theorem Row.new (w:World) (cs:Array Value) (t:TypeId) (fr:Nat×Nat) (xs:List Value) (h:cs.toList=xs):Row (w.alloc (.cells cs t fr)) (some ⟨w.heap.size,0,none⟩) xs:=by
 right;refine⟨w.heap.size,0,rfl,fun k u hu=>?_⟩;rw[World.cell?_alloc_mark,Nat.zero_add];subst h;simpa using hu
theorem Row.qbP (w:World) (cs:Array Value) (t:TypeId) (fr:Nat×Nat) (xs:List Value) (b:Nat) (h:cs.toList=xs) (hb:b=w.heap.size):Row (w.alloc (.cells cs t fr)) (some ⟨b,0,none⟩) xs:=by
 subst hb;exact Row.new w cs t fr xs h
end
def Own (w:World) (base size:Nat) (v:Value) (n:Nat) (xs:List Value):Prop:=
 xs.length=n*size∧((v=.slice none 0 0∧n=0)∨
  ∃g off cap,v=.slice (some ⟨g,off,none⟩) n cap∧base≤g∧g<w.heap.size∧n≤cap∧cap≤maxLen∧(∀j u,xs[j]? =some u→w.cell? ⟨g,off+j,none⟩=some u)∧
   (∀j,j<cap*size→(w.cell? ⟨g,off+j,none⟩).isSome=true∧w.frozen? ⟨g,off+j,none⟩=false))
section
variable {w w' : World} {base base' size n : Nat} {v : Value} {xs : List Value}
theorem Own.nil (w:World) (base size:Nat):Own w base size (.slice none 0 0) 0 []:=⟨by simp,.inl ⟨rfl,rfl⟩⟩
theorem Own.qiG {e:TypeId} (h:w.ownsRow base e size v n xs):Own w base size v n xs:=by
 refine⟨h.1,?_⟩;rcases h.2 with h0|⟨g,cap,cur,rfl,hb,hh,hnc,hcm,hcs,htake⟩
 ·exact .inl h0
 ·refine .inr ⟨g,0,cap,rfl,hb,(Array.getElem?_eq_some_iff.1 hh).1,hnc,hcm,fun j u hu=>?_,fun j hj=>?_⟩
  ·have:=h.cells (g:=g) (by simp[Value.ownBlock]) j u hu
   rw[Nat.zero_add];have h2:(⟨g,0,none⟩:Addr).add j=⟨g,j,none⟩:=by unfold Addr.add;split<;>simp_all
   rwa [h2]at this
  ·rw [Nat.zero_add,cell_of_row w g j cur e (0,0) hh]
   refine⟨?_,?_⟩
   ·have:j<cur.size:=by omega
    simp[this]
   ·simp [World.frozen?,hh]
theorem Own.new (w:World) (cs:Array Value) (e:TypeId) (fr:Nat×Nat) (n size:Nat) (xs:List Value) (base b:Nat) (hb:b=w.heap.size) (hbase:base≤b) (hm:n≤maxLen) (hs:cs.size=n*size) (hx:cs.toList=xs) (hf:cs.size≤fr.1∨fr.2=0):
  Own (w.alloc (.cells cs e fr)) base size (.slice (some ⟨b,0,none⟩) n n) n xs:=by
 subst hb;refine⟨by rw[←hx,Array.length_toList,hs],.inr ⟨w.heap.size,0,n,rfl,hbase,by simp,Nat.le_refl _,hm,fun j u hu=>?_,fun j hj=>?_⟩⟩
 ·rw [World.cell?_alloc_mark,Nat.zero_add]
  subst hx;simpa using hu
 ·rw [World.cell?_alloc_mark,Nat.zero_add]
  refine⟨by simp;omega,?_⟩
  have hh:(w.alloc (.cells cs e fr)).heap[w.heap.size]? =some (.cells cs e fr):=by
   show(w.heap.push _)[w.heap.size]? =_;simp
  obtain⟨lo,hi⟩:=fr;simp only[World.frozen?,hh,Bool.and_eq_false_iff,decide_eq_false_iff_not];simp only at hf;omega
theorem Own.row {A:Option Addr} {c:Nat} (h:Own w base size (.slice A n c) n xs):Row w A xs:=by
 rcases h.2 with ⟨hv,hn⟩|⟨g,off,cap,hv,hb,hg,hnc,hcm,hx,hc⟩
 ·left
  have:=h.1;subst hn;exact List.eq_nil_of_length_eq_zero (by simpa using this)
 ·injection hv with hA _ _
  exact .inr ⟨g,off,hA,hx⟩
theorem Own.form (h:Own w base size v n xs): ∃A c,v=.slice A n c∧n≤c∧c≤maxLen∧Row w A xs∧(∀a,A=some a→a.spot=none∧base≤a.block∧a.block<w.heap.size)∧(A=none→n=0∧c=0):=by
 rcases h.2 with ⟨rfl,rfl⟩|⟨g,off,cap,rfl,hb,hg,hnc,hcm,hx,hc⟩
 ·exact⟨none,0,rfl,Nat.le_refl _,Nat.zero_le _,h.row,by simp,by simp⟩
 ·exact⟨some ⟨g,off,none⟩,cap,rfl,hnc,hcm,h.row,by simp;exact⟨hb,hg⟩,by simp⟩
theorem Own.lt (h:Own w base size v n xs): ∀k,v.ownBlock=some k→base≤k∧k<w.heap.size:=by
 intro k hk;rcases h.2 with ⟨rfl,_⟩|⟨g,off,cap,rfl,hb,hg,_⟩
 ·simp [Value.ownBlock]at hk
 ·simp [Value.ownBlock]at hk
  subst hk;exact⟨hb,hg⟩
theorem Own.keep (h:Own w base size v n xs) (hs:w.heap.size≤w'.heap.size) (hk: ∀g,v.ownBlock=some g→∀o,w'.cell? ⟨g,o,none⟩=w.cell? ⟨g,o,none⟩∧w'.frozen? ⟨g,o,none⟩=w.frozen? ⟨g,o,none⟩):Own w' base size v n xs:=by
 refine⟨h.1,?_⟩;rcases h.2 with h0|⟨g,off,cap,rfl,hb,hg,hnc,hcm,hx,hc⟩
 ·exact .inl h0
 ·refine .inr ⟨g,off,cap,rfl,hb,by omega,hnc,hcm,fun j u hu=>?_,fun j hj=>?_⟩
  ·rw [(hk g rfl _).1];exact hx j u hu
  ·rw [(hk g rfl _).1,(hk g rfl _).2];exact hc j hj
theorem Own.kept (h:Own w base size v n xs) (hk:Kept w w'):Own w' base size v n xs:=
 h.keep hk.size fun g hg _=>⟨hk.cells _ _ (h.lt g hg).2,hk.thaw _ _ (h.lt g hg).2⟩
theorem Own.alloc (h:Own w base size v n xs) (o:Obj):Own (w.alloc o) base size v n xs:=h.kept ((Below.refl _ _).alloc (Nat.le_refl _) o)
theorem Own.drewN (h:Own w base size v n xs) (k:Nat):Own (w.drewN k) base size v n xs:=h
theorem Own.drew (h:Own w base size v n xs):Own w.drew base size v n xs:=h
theorem Own.less (h:Own w base size v n xs) (hb:base'≤base):Own w base' size v n xs:=by
 refine⟨h.1,?_⟩;rcases h.2 with h0|⟨g,off,cap,hv,hg,rest⟩
 ·exact .inl h0
 ·exact .inr ⟨g,off,cap,hv,by omega,rest⟩
theorem Own.grown {row:Option Nat} (h:Own w base size v n xs) (hg:w.grownBy w' row) (hne: ∀k,v.ownBlock=some k→some k≠row):Own w' base size v n xs:=
 h.keep hg.size fun g hgg o=>⟨hg.cell_far ⟨g,o,none⟩ (h.lt g hgg).2 (hne g hgg),hg.frozen_far ⟨g,o,none⟩ (h.lt g hgg).2 (hne g hgg)⟩
theorem Own.far {p:Addr} (h:Own w base size v n xs) (hne: ∀k,v.ownBlock=some k→k≠p.block) (u:Value):Own (w.setCell p u) base size v n xs:=
 h.keep (by simp[World.setCell]) fun g hg o=>by
  have hh:(w.setCell p u).heap[g]? =w.heap[g]? :=Below.heap_setCell w p u g (hne g hg);exact⟨World.cell?_of_block (a:=⟨g,o,none⟩) hh,World.frozen?_of_block (a:=⟨g,o,none⟩) hh⟩
theorem Own.front {A:Option Addr} {c:Nat} (h:Own w base size (.slice A n c) n xs) {k:Nat} (hk:k≤n):Own w base size (.slice A k c) k (xs.take (k*size)):=by
 have hks:k*size≤n*size:=Nat.mul_le_mul_right _ hk;rcases h.2 with ⟨hv,hn⟩|⟨g,off,cap,hv,hb,hg,hnc,hcm,hx,hc⟩
 ·injection hv with hA _ hcc
  subst hA;subst hcc;refine⟨by rw[List.length_take,h.1];omega,.inl ⟨?_,by omega⟩⟩;rw[show k=0 by omega]
 ·injection hv with hA _ hcc
  subst hA;subst hcc;refine⟨by rw[List.length_take,h.1];omega,.inr ⟨g,off,c,rfl,hb,hg,by omega,hcm,fun j u hu=>?_,hc⟩⟩;rw[List.getElem?_take]at hu;split at hu
  ·exact hx j u hu
  ·cases hu
end
theorem qbe {B:Nat} {a w w':World} {base size n:Nat} {v:Value} {xs:List Value} (h:Below B a w) (hown:Own w base size v n xs) (hB:B≤base) (hbase:base≤w.heap.size) (hg:w.grownBy w' v.ownBlock):Below B a w':=
 h.grown hg (by omega) (fun k hk=>by have:=hown.lt k hk;omega)
theorem qcv (w:World) (g o:Nat) (vs:List Value):w.grownBy (w.setCells g o vs) (some g):=by
 have hB:=World.keptBut_setCells g (may:=fun _=>True) vs o w (fun _ _=>trivial)
 have hs: ∀(vs:List Value) (o:Nat) (w:World),(w.setCells g o vs).heap.size=w.heap.size∧(w.setCells g o vs).tape=w.tape:=by
  intro vs;induction vs with
  |nil=>intro o w;exact⟨rfl,rfl⟩
  |cons u us ih=>
   intro o w;have:=ih (o+1) (w.setCell ⟨g,o,none⟩ u);simpa [World.setCells,World.setCell] using this
 refine⟨hB.1,(hs vs o w).2,hB.2.1,by rw[(hs vs o w).1];exact Nat.le_refl _,fun k hk hne=>?_⟩
 have hh: ∀(vs:List Value) (o:Nat) (w:World),(w.setCells g o vs).heap[k]? =w.heap[k]? :=by
  intro vs;induction vs with
  |nil=>intro o w;rfl
  |cons u us ih=>
   intro o w;have:=ih (o+1) (w.setCell ⟨g,o,none⟩ u);rw[Below.heap_setCell w ⟨g,o,none⟩ u k (fun e=>hne (by rw[e]))]at this;simpa [World.setCells] using this
 exact hh vs o w
section
variable {P : Program}
theorem qdr (w:World) (base:Nat) (t ty e:TypeId) (i:TypeInfo) (z:Value) (size bytes:Nat) (ht:P.underlying t=some (.slice e)) (hi:P.info? e=some i) (hz:i.zero=some z)
  (hsize:i.size=size) (hby:i.bytes=bytes) (hzs:z.cells.size=size) (hsz:0<size)
  (v:Value) (n:Nat) (xs:List Value) (hown:Own w base size v n xs)
  (A:Option Addr) (m c:Nat) (news:List Value) (hl:news.length=m*size) (hr:Row w A news) (h1: ∀u∈news,u.oneCell'=true)
  (h63:n+m≤maxLen) (hbytes:(n+m)*bytes≤140737488355328) (hbase:base≤w.heap.size):
  ∃v' w',(Builtin.append_ #[t,t] ty #[v,.slice A m c]).run P w=.ok v' w'∧Own w' base size v' (n+m) (xs++news)∧w.grownBy w' v.ownBlock∧
   (v'.ownBlock=v.ownBlock∨∀k,v'.ownBlock=some k→w.heap.size≤k):=by
 rcases A with _|ad
 ·have hn:news=[]:=by
   rcases hr with h|⟨b,off,h,_⟩
   ·exact h
   ·cases h
  subst hn
  have hm:m=0:=by
   have h0:m*size=0:=by simpa using hl.symm
   rcases Nat.mul_eq_zero.1 h0 with h|h
   ·exact h
   ·omega
  subst hm;refine⟨v,w,?_,by simpa using hown,World.grownBy.refl w _,.inl rfl⟩;rcases hown.2 with ⟨rfl,rfl⟩|⟨g,off,cap,rfl,_,_,hnc,_⟩
  ·simp [Builtin.append_,run_underlying ht,sizeOf,typeInfo,hi,Builtin.lenOf,Builtin.firstCells]
  ·simp [Builtin.append_,run_underlying ht,sizeOf,typeInfo,hi,Builtin.lenOf,Builtin.firstCells,hnc,storeCells]
 ·have hcells: ∀j u,news[j]? =some u→w.cell? (ad.add j)=some u:=by
   intro j u hu;rcases hr with h|⟨b,off,h,hc⟩
   ·subst h;simp at hu
   ·injection h with h
    subst h;have:(⟨b,off,none⟩:Addr).add j=⟨b,off+j,none⟩:=by unfold Addr.add;split<;>simp_all
    rw[this];exact hc j u hu
  rcases hown.2 with ⟨rfl,rfl⟩|⟨g,off,cap,rfl,hbg,hg,hnc,hcm,hx,hc⟩
  ·have hx:xs=[]:=List.eq_nil_of_length_eq_zero (by simpa using hown.1)
   subst hx;obtain⟨v',w',hrun,h2,h3,_,h5⟩:=run_append_own_at (P:=P) w base t ty e i z size bytes ht hi hz hsize hby hzs hsz (.slice none 0 0) 0 [] (World.ownsRow_nil w base e size) ad m c news hl hcells h1 h63 hbytes hbase;exact⟨v',w',hrun,Own.qiG h2,h3,h5.imp id (fun e k hk=>by rw[e]at hk;injection hk with hk;omega)⟩
  ·by_cases hroom:n+m≤cap
   ·have hmul:n*size+m*size≤cap*size:=by rw[←Nat.add_mul];exact Nat.mul_le_mul_right _ hroom
    have hrun:=run_append_room_cells (P:=P) w t ty e i ht hi g off n cap ad m c news (by rw[hsize];exact hl) hcells h1 hroom
     (fun j hj=>by rw[hsize,Nat.add_assoc];exact(hc _ (by omega)).1) (fun j hj=>by rw[hsize,Nat.add_assoc];exact(hc _ (by omega)).2)
    rw[hsize]at hrun;have hgr:=qcv w g (off+n*size) news;have hsome: ∀j,j<news.length→(w.cell? ⟨g,off+n*size+j,none⟩).isSome=true:=fun j hj=>by rw[Nat.add_assoc];exact(hc _ (by omega)).1
    refine⟨_,_,hrun,⟨by rw[List.length_append,hown.1,hl,Nat.add_mul],.inr ⟨g,off,cap,rfl,hbg,Nat.lt_of_lt_of_le hg hgr.size,hroom,hcm,fun j u hu=>?_,fun j hj=>?_⟩⟩,hgr,.inl rfl⟩
    ·by_cases hj:j<n*size
     ·rw [World.cell?_setCells_out g news _ w ⟨g,off+j,none⟩ (fun _ _=>.inl (by show off+j<off+n*size;omega))]
      rw[List.getElem?_append_left (by rw[hown.1];exact hj)]at hu;exact hx j u hu
     ·rw [List.getElem?_append_right (by rw[hown.1];omega),hown.1]at hu
      obtain⟨q,rfl⟩: ∃q,j=n*size+q:=⟨j-n*size,by omega⟩
      have hq:q<news.length:=by
       rcases Nat.lt_or_ge q news.length with h|h
       ·exact h
       ·rw [List.getElem?_eq_none (by omega)]at hu;cases hu
      rw[←Nat.add_assoc,World.cell?_setCells_in g news (off+n*size) w hsome q hq,←hu,Nat.add_sub_cancel_left,List.getElem?_eq_getElem hq]
    ·rw [World.frozen?_setCells]
     refine⟨?_,(hc j hj).2⟩;by_cases hin:n*size≤j∧j<n*size+news.length
     ·obtain⟨q,rfl⟩: ∃q,j=n*size+q:=⟨j-n*size,by omega⟩
      rw[←Nat.add_assoc,World.cell?_setCells_in g news (off+n*size) w hsome q (by omega)];rfl
     ·rw [World.cell?_setCells_out g news _ w ⟨g,off+j,none⟩ (fun _ _=>by show off+j<off+n*size∨off+n*size+news.length≤off+j;omega)]
      exact(hc j hj).1
   ·obtain⟨v',w',hrun,h2,h3⟩:=run_append_arg_grows (P:=P) w t ty e i z size bytes ht hi hz hsize hby hzs hsz ⟨g,off,none⟩ n cap xs hown.1 (fun j u hu=>by rw[Addr.add_lit];exact hx j u hu) ad m c news hl hcells (by omega) h63 hbytes
    have hown2:=(Own.qiG h2)
    refine⟨v',w',hrun,hown2.less hbase,⟨h3.os,h3.tape,h3.output,h3.size,fun k hk _=>h3.block k hk (by simp)⟩,?_⟩;exact .inr fun k hk=>(hown2.lt k hk).1
theorem qaq (w:World) {ops:Array Oper} {rest:List Oper} {o:Oper} {a:Act} {Q:Exit→Act→World→Prop} (hgd:o.guard=none) (s x:Operand) (t:TypeId)
  (ho:o.op=.call {callee:=.builtin .append,args:=#[s,x],argTypes:=#[t,t]})
  (base:Nat) (e:TypeId) (i:TypeInfo) (z:Value) (size bytes:Nat) (ht:P.underlying t=some (.slice e)) (hi:P.info? e=some i) (hz:i.zero=some z)
  (hsize:i.size=size) (hby:i.bytes=bytes) (hzs:z.cells.size=size) (hsz:0<size)
  (v:Value) (n:Nat) (xs:List Value) (hs:a.eval s=v) (hown:Own w base size v n xs)
  (A:Option Addr) (m c:Nat) (news:List Value) (hx:a.eval x=.slice A m c) (hl:news.length=m*size) (hr:Row w A news) (h1: ∀u∈news,u.oneCell'=true)
  (h63:n+m≤maxLen) (hbytes:(n+m)*bytes≤140737488355328) (hbase:base≤w.heap.size)
  (h: ∀v' w',Own w' base size v' (n+m) (xs++news)→w.grownBy w' v.ownBlock→(v'.ownBlock=v.ownBlock∨∀k,v'.ownBlock=some k→w.heap.size≤k)→wpList P ops Q rest (a.put o.dst v') w'):wpList P ops Q (o::rest) a w:=by
 refine wpList_plain hgd fun K hK=>?_;obtain⟨v',w',hrun,h2,h3,h4⟩:=qdr (P:=P) w base t o.type e i z size bytes ht hi hz hsize hby hzs hsz v n xs hown A m c news hl hr h1 h63 hbytes hbase;unfold Oper.wp execOp;simp only[ho,resolve,invoke,builtin,Sem.run_bind,Sem.run_pure,Result.andThen_ok,List.map_toArray,List.map_cons,List.map_nil,hs,hx,hrun];exact hK _ _ (h v' w' h2 h3 h4)
end
theorem qeA {P:Program} (w:World) {ops:Array Oper} {o:Oper} {a:Act} {K:Act→World→Prop} {Q:Exit→Act→World→Prop} {E:Prop} (hgd:o.guard=none) (s x:Operand) (t:TypeId)
  (ho:o.op=.call {callee:=.builtin .append,args:=#[s,x],argTypes:=#[t,t]})
  (base:Nat) (e:TypeId) (i:TypeInfo) (z:Value) (size bytes:Nat) (ht:P.underlying t=some (.slice e)) (hi:P.info? e=some i) (hz:i.zero=some z)
  (hsize:i.size=size) (hby:i.bytes=bytes) (hzs:z.cells.size=size) (hsz:0<size)
  (v:Value) (n:Nat) (xs:List Value) (hs:a.eval s=v) (hown:Own w base size v n xs)
  (A:Option Addr) (m c:Nat) (news:List Value) (hx:a.eval x=.slice A m c) (hl:news.length=m*size) (hr:Row w A news) (h1: ∀u∈news,u.oneCell'=true)
  (h63:n+m≤maxLen) (hbytes:(n+m)*bytes≤140737488355328) (hbase:base≤w.heap.size)
  (h: ∀v' w',Own w' base size v' (n+m) (xs++news)→w.grownBy w' v.ownBlock→(v'.ownBlock=v.ownBlock∨∀k,v'.ownBlock=some k→w.heap.size≤k)→K (a.put o.dst v') w'):
  if Region.wanted o (yielded ops a.tmps)=true then Oper.wp P o a w K Q else E:=by
 rw[if_pos (by simp[Region.wanted,hgd])];obtain⟨v',w',hrun,h2,h3,h4⟩:=qdr (P:=P) w base t o.type e i z size bytes ht hi hz hsize hby hzs hsz v n xs hown A m c news hl hr h1 h63 hbytes hbase;unfold Oper.wp execOp;simp only[ho,resolve,invoke,builtin,Sem.run_bind,Sem.run_pure,Result.andThen_ok,List.map_toArray,List.map_cons,List.map_nil,hs,hx,hrun];exact h v' w' h2 h3 h4
theorem qlq (w:World) (e:TypeId) (s:ByteArray):Kept w (Lib.bytesWorld w e s):=
 ⟨rfl,rfl,rfl,by rw[Lib.bytesWorld_size];omega,fun k hk=>Lib.bytesWorld_at_old w e s k hk⟩
theorem qlV (w:World) (e:TypeId) (s:ByteArray) (hs:s.size≤maxLen):
  Own (Lib.bytesWorld w e s) w.heap.size 1 (.slice (some ⟨w.heap.size,0,none⟩) s.size (grownCap w s.size 0 e)) s.size (s.data.toList.map fun b=>.int .u8 (b.toNat:Int)):=by
 have hge:=grownCap_ge w s.size 0 e;have hle:=grownCap_le_maxLen w s.size 0 e hs;refine⟨by simp,.inr ⟨w.heap.size,0,_,rfl,Nat.le_refl _,by rw[Lib.bytesWorld_size];omega,hge,hle,fun j u hu=>?_,fun j hj=>?_⟩⟩
 ·have hj:j<s.size:=by
   rcases Nat.lt_or_ge j s.size with h|h
   ·exact h
   ·rw [List.getElem?_eq_none (by simpa using h)]at hu;cases hu
  rw[Nat.zero_add,Lib.bytesWorld_cell w e s j hj];simp at hu;obtain⟨b,hb,rfl⟩:=hu;simp[List.getD,hb]
 ·rw [Nat.zero_add,Nat.mul_one]at *
  have hcs:(Lib.bytesCells w e s).size=grownCap w s.size 0 e:=by simp[Lib.bytesCells];omega
  simp only[World.cell?,World.frozen?,Lib.bytesWorld_at_new];simp[hcs];omega
theorem qhJ {P:Program} (w:World) {o:Oper} {a:Act} {K:Act→World→Prop} {Q:Exit→Act→World→Prop} (src dst e:TypeId) (x:Operand) (ho:o.op=.convert src dst x) {u:TypeDesc}
  (hs:P.underlying src=some u) (hd:P.underlying dst=some (.slice e)) (he:P.underlying e=some (.int .u8)) (s:ByteArray) (hx:a.eval x=.string s) (hm:s.size≤maxLen)
  (h: ∀A c w',Own w' w.heap.size 1 (.slice A s.size c) s.size (s.data.toList.map fun b=>.int .u8 (b.toNat:Int))→Kept w w'→K (a.put o.dst (.slice A s.size c)) w'):o.wp P a w K Q:=by
 unfold Oper.wp execOp;simp only[ho,hx,Sem.run_bind,Lib.run_convert_string_bytes w src dst e s hs hd he,Result.andThen_ok,Sem.run_pure];exact h _ _ _ (qlV w e s hm) (qlq w e s)
theorem qcB {P:Program} (w:World) {ops:Array Oper} {rest:List Oper} {o:Oper} {a:Act} {Q:Exit→Act→World→Prop} (hg:o.guard=none) (src dst e:TypeId) (x:Operand) (ho:o.op=.convert src dst x) {u:TypeDesc}
  (hs:P.underlying src=some u) (hd:P.underlying dst=some (.slice e)) (he:P.underlying e=some (.int .u8)) (s:ByteArray) (hx:a.eval x=.string s) (hm:s.size≤maxLen)
  (h: ∀A c w',Own w' w.heap.size 1 (.slice A s.size c) s.size (s.data.toList.map fun b=>.int .u8 (b.toNat:Int))→Kept w w'→wpList P ops Q rest (a.put o.dst (.slice A s.size c)) w'):wpList P ops Q (o::rest) a w:=
 wpList_plain hg fun _ hK=>qhJ w src dst e x ho hs hd he s hx hm fun A c w' h1 h2=>hK _ _ (h A c w' h1 h2)
theorem qd1 (b off k:Nat):(⟨b,off,none⟩:Addr).add k=⟨b,off+k,none⟩:=by unfold Addr.add;split<;>simp_all
theorem qin {A:Option Addr} {n c n' c':Nat} (h:n=n') (hc:c=c'):Ending.returned (.slice A n c)=Ending.returned (.slice A n' c'):=by rw[h,hc]
theorem qaW {k:IntKind} {a b:Int} (h:a=b):Ending.returned (.int k a)=Ending.returned (.int k b):=by rw[h]
theorem qbA {a b:Bool} (h:a=b):Ending.returned (.bool a)=Ending.returned (.bool b):=by rw[h]
end
section
theorem Kept.new {w W:World} (h:Kept w W) (o:Obj):Kept w (W.alloc o):=h.alloc h.size o
def Bx (W:World) (b:Nat) (vs:List Value):Prop:= ∃t,W.heap[b]? =some (.cells vs.toArray t (0,0))
section
variable {w W W' : World} {b i : Nat} {vs : List Value} {v x0 x1 x2 x3 x4 x5 x6 x7 x8 x9 x10 x11 x12 : Value}
theorem Bx.lt (h:Bx W b vs):b<W.heap.size:=by
 obtain⟨t,h⟩:=h;exact(Array.getElem?_eq_some_iff.1 h).1
theorem Bx.c (h:Bx W b vs) (i:Nat) {v:Value} (hv:vs[i]? =some v):W.cell? ⟨b,i,none⟩=some v:=by
 obtain⟨t,h⟩:=h;unfold World.cell?;simp[h,hv]
theorem Bx.f (h:Bx W b vs) (i:Nat):W.frozen? ⟨b,i,none⟩=false:=by
 obtain⟨t,h⟩:=h;simp only[World.frozen?,h];simp
theorem Bx.kept (h:Bx W b vs) (hk:Kept W W'):Bx W' b vs:=by
 have hl:=h.lt;obtain⟨t,h⟩:=h;exact⟨t,(hk.block b hl).trans h⟩
theorem Bx.grown {q:Nat} (h:Bx W b vs) (hg:W.grownBy W' (some q)) (hne:b≠q):Bx W' b vs:=by
 have hl:=h.lt;obtain⟨t,h⟩:=h;exact⟨t,(hg.block b hl (by simpa using hne)).trans h⟩
theorem Bx.new (W:World) (vs:List Value) (t:TypeId) (b:Nat) (hb:b=W.heap.size):Bx (W.alloc (.cells vs.toArray t)) b vs:=by
 subst hb;exact⟨t,by show(W.heap.push _)[W.heap.size]? =_;simp⟩
theorem Bx.set (h:Bx W b vs) (i:Nat) (v:Value) (hi:i<vs.length):Bx (W.setCell ⟨b,i,none⟩ v) b (vs.set i v):=by
 obtain⟨t,h⟩:=h;refine⟨t,?_⟩;simp[World.setCell,Array.getElem?_modify,h,hi]
theorem Bx.far (h:Bx W b vs) (p:Addr) (hp:b≠p.block) (v:Value):Bx (W.setCell p v) b vs:=by
 obtain⟨t,h⟩:=h;refine⟨t,?_⟩;simp only[World.setCell];rw[Array.getElem?_modify];rw[if_neg (fun e=>hp e.symm)];exact h
theorem Bx.c3 (h:Bx W b [x0,x1,x2]):W.cell? ⟨b,0,none⟩=some x0∧W.cell? ⟨b,1,none⟩=some x1∧W.cell? ⟨b,2,none⟩=some x2:=⟨h.c 0 rfl,h.c 1 rfl,h.c 2 rfl⟩
theorem Bx.c6 (h:Bx W b [x0,x1,x2,x3,x4,x5]):W.cell? ⟨b,0,none⟩=some x0∧W.cell? ⟨b,1,none⟩=some x1∧W.cell? ⟨b,2,none⟩=some x2∧W.cell? ⟨b,3,none⟩=some x3∧W.cell? ⟨b,4,none⟩=some x4∧W.cell? ⟨b,5,none⟩=some x5:=⟨h.c 0 rfl,h.c 1 rfl,h.c 2 rfl,h.c 3 rfl,h.c 4 rfl,h.c 5 rfl⟩
theorem Bx.c7 (h:Bx W b [x0,x1,x2,x3,x4,x5,x6]):W.cell? ⟨b,0,none⟩=some x0∧W.cell? ⟨b,1,none⟩=some x1∧W.cell? ⟨b,2,none⟩=some x2∧W.cell? ⟨b,3,none⟩=some x3∧W.cell? ⟨b,4,none⟩=some x4∧W.cell? ⟨b,5,none⟩=some x5∧W.cell? ⟨b,6,none⟩=some x6:=⟨h.c 0 rfl,h.c 1 rfl,h.c 2 rfl,h.c 3 rfl,h.c 4 rfl,h.c 5 rfl,h.c 6 rfl⟩
theorem Bx.f3 (h:Bx W b vs):W.frozen? ⟨b,0,none⟩=false∧W.frozen? ⟨b,1,none⟩=false∧W.frozen? ⟨b,2,none⟩=false:=⟨h.f 0,h.f 1,h.f 2⟩
theorem Bx.f6 (h:Bx W b vs):W.frozen? ⟨b,0,none⟩=false∧W.frozen? ⟨b,1,none⟩=false∧W.frozen? ⟨b,2,none⟩=false∧W.frozen? ⟨b,3,none⟩=false∧W.frozen? ⟨b,4,none⟩=false∧W.frozen? ⟨b,5,none⟩=false:=⟨h.f 0,h.f 1,h.f 2,h.f 3,h.f 4,h.f 5⟩
theorem Kept.set (h:Kept w W) (hb:w.heap.size≤b) (i:Nat) (v:Value):Kept w (W.setCell ⟨b,i,none⟩ v):=h.setCell (p:=⟨b,i,none⟩) hb v
theorem Kept.qaO (h:Kept w W) (hb:w.heap.size≤b) (x y z:Value):Kept w (((W.setCell ⟨b,0,none⟩ x).setCell ⟨b,1,none⟩ y).setCell ⟨b,2,none⟩ z):=((h.set hb 0 x).set hb 1 y).set hb 2 z
theorem Kept.qde (h:Kept w W) (hb:w.heap.size≤b) (x0 x1 x2 x3 x4 x5:Value):Kept w ((((((W.setCell ⟨b,0,none⟩ x0).setCell ⟨b,1,none⟩ x1).setCell ⟨b,2,none⟩ x2).setCell ⟨b,3,none⟩ x3).setCell ⟨b,4,none⟩ x4).setCell ⟨b,5,none⟩ x5):=((h.qaO hb x0 x1 x2).set hb 3 x3 |>.set hb 4 x4).set hb 5 x5
end
end
theorem qa4 (w:World) (l0:List Value) (t0:TypeId): ∃(b:Nat) (w1:World),w1=(w.alloc (.cells l0.toArray t0))∧b=w.heap.size∧Hid (Bx w1 (b) l0)∧Hid (Kept w w1)∧Hid (w.heap.size≤b):=by
 have B0:=Bx.new w l0 t0 (w.heap.size) rfl;have K1:=Kept.new (Below.refl _ w) (.cells l0.toArray t0);exact⟨_,_,rfl,rfl,qh B0,qh K1,qh (Nat.le_refl _)⟩
theorem qa6 (w:World) (l0:List Value) (t0:TypeId) (l1:List Value) (t1:TypeId): ∃(b:Nat) (w1:World),w1=((w.alloc (.cells l0.toArray t0)).alloc (.cells l1.toArray t1))∧b=w.heap.size∧Hid (Bx w1 (b) l0)∧Hid (Bx w1 (b+1) l1)∧Hid (Kept w w1)∧Hid (w.heap.size≤b):=by
 have B0:=Bx.new w l0 t0 (w.heap.size) rfl;have K1:=Kept.new (Below.refl _ w) (.cells l0.toArray t0);have B1:=Bx.new (w.alloc (.cells l0.toArray t0)) l1 t1 (w.heap.size+1) (by simp);replace B0:=B0.kept (Kept.new (Below.refl _ (w.alloc (.cells l0.toArray t0))) (.cells l1.toArray t1));replace K1:=Kept.new K1 (.cells l1.toArray t1);exact⟨_,_,rfl,rfl,qh B0,qh B1,qh K1,qh (Nat.le_refl _)⟩
theorem qcj (w:World) (l0:List Value) (t0:TypeId) (l1:List Value) (t1:TypeId) (l2:List Value) (t2:TypeId): ∃(b:Nat) (w1:World),w1=(((w.alloc (.cells l0.toArray t0)).alloc (.cells l1.toArray t1)).alloc (.cells l2.toArray t2))∧b=w.heap.size∧Hid (Bx w1 (b) l0)∧Hid (Bx w1 (b+1) l1)∧Hid (Bx w1 (b+2) l2)∧Hid (Kept w w1)∧Hid (w.heap.size≤b):=by
 have B0:=Bx.new w l0 t0 (w.heap.size) rfl;have K1:=Kept.new (Below.refl _ w) (.cells l0.toArray t0);have B1:=Bx.new (w.alloc (.cells l0.toArray t0)) l1 t1 (w.heap.size+1) (by simp);replace B0:=B0.kept (Kept.new (Below.refl _ (w.alloc (.cells l0.toArray t0))) (.cells l1.toArray t1));replace K1:=Kept.new K1 (.cells l1.toArray t1);have B2:=Bx.new ((w.alloc (.cells l0.toArray t0)).alloc (.cells l1.toArray t1)) l2 t2 (w.heap.size+2) (by simp);replace B0:=B0.kept (Kept.new (Below.refl _ ((w.alloc (.cells l0.toArray t0)).alloc (.cells l1.toArray t1))) (.cells l2.toArray t2));replace B1:=B1.kept (Kept.new (Below.refl _ ((w.alloc (.cells l0.toArray t0)).alloc (.cells l1.toArray t1))) (.cells l2.toArray t2));replace K1:=Kept.new K1 (.cells l2.toArray t2);exact⟨_,_,rfl,rfl,qh B0,qh B1,qh B2,qh K1,qh (Nat.le_refl _)⟩
theorem qpV (w:World) (l0:List Value) (t0:TypeId) (l1:List Value) (t1:TypeId) (l2:List Value) (t2:TypeId) (l3:List Value) (t3:TypeId): ∃(b:Nat) (w1:World),w1=((((w.alloc (.cells l0.toArray t0)).alloc (.cells l1.toArray t1)).alloc (.cells l2.toArray t2)).alloc (.cells l3.toArray t3))∧b=w.heap.size∧Hid (Bx w1 (b) l0)∧Hid (Bx w1 (b+1) l1)∧Hid (Bx w1 (b+2) l2)∧Hid (Bx w1 (b+3) l3)∧Hid (Kept w w1)∧Hid (w.heap.size≤b):=by
 have B0:=Bx.new w l0 t0 (w.heap.size) rfl;have K1:=Kept.new (Below.refl _ w) (.cells l0.toArray t0);have B1:=Bx.new (w.alloc (.cells l0.toArray t0)) l1 t1 (w.heap.size+1) (by simp);replace B0:=B0.kept (Kept.new (Below.refl _ (w.alloc (.cells l0.toArray t0))) (.cells l1.toArray t1));replace K1:=Kept.new K1 (.cells l1.toArray t1);have B2:=Bx.new ((w.alloc (.cells l0.toArray t0)).alloc (.cells l1.toArray t1)) l2 t2 (w.heap.size+2) (by simp);replace B0:=B0.kept (Kept.new (Below.refl _ ((w.alloc (.cells l0.toArray t0)).alloc (.cells l1.toArray t1))) (.cells l2.toArray t2));replace B1:=B1.kept (Kept.new (Below.refl _ ((w.alloc (.cells l0.toArray t0)).alloc (.cells l1.toArray t1))) (.cells l2.toArray t2));replace K1:=Kept.new K1 (.cells l2.toArray t2);have B3:=Bx.new (((w.alloc (.cells l0.toArray t0)).alloc (.cells l1.toArray t1)).alloc (.cells l2.toArray t2)) l3 t3 (w.heap.size+3) (by simp);replace B0:=B0.kept (Kept.new (Below.refl _ (((w.alloc (.cells l0.toArray t0)).alloc (.cells l1.toArray t1)).alloc (.cells l2.toArray t2))) (.cells l3.toArray t3));replace B1:=B1.kept (Kept.new (Below.refl _ (((w.alloc (.cells l0.toArray t0)).alloc (.cells l1.toArray t1)).alloc (.cells l2.toArray t2))) (.cells l3.toArray t3));replace B2:=B2.kept (Kept.new (Below.refl _ (((w.alloc (.cells l0.toArray t0)).alloc (.cells l1.toArray t1)).alloc (.cells l2.toArray t2))) (.cells l3.toArray t3));replace K1:=Kept.new K1 (.cells l3.toArray t3);exact⟨_,_,rfl,rfl,qh B0,qh B1,qh B2,qh B3,qh K1,qh (Nat.le_refl _)⟩
theorem qpI (w:World) (l0:List Value) (t0:TypeId) (l1:List Value) (t1:TypeId) (l2:List Value) (t2:TypeId) (l3:List Value) (t3:TypeId) (l4:List Value) (t4:TypeId): ∃(b:Nat) (w1:World),w1=(((((w.alloc (.cells l0.toArray t0)).alloc (.cells l1.toArray t1)).alloc (.cells l2.toArray t2)).alloc (.cells l3.toArray t3)).alloc (.cells l4.toArray t4))∧b=w.heap.size∧Hid (Bx w1 (b) l0)∧Hid (Bx w1 (b+1) l1)∧Hid (Bx w1 (b+2) l2)∧Hid (Bx w1 (b+3) l3)∧Hid (Bx w1 (b+4) l4)∧Hid (Kept w w1)∧Hid (w.heap.size≤b):=by
 have B0:=Bx.new w l0 t0 (w.heap.size) rfl;have K1:=Kept.new (Below.refl _ w) (.cells l0.toArray t0);have B1:=Bx.new (w.alloc (.cells l0.toArray t0)) l1 t1 (w.heap.size+1) (by simp);replace B0:=B0.kept (Kept.new (Below.refl _ (w.alloc (.cells l0.toArray t0))) (.cells l1.toArray t1));replace K1:=Kept.new K1 (.cells l1.toArray t1);have B2:=Bx.new ((w.alloc (.cells l0.toArray t0)).alloc (.cells l1.toArray t1)) l2 t2 (w.heap.size+2) (by simp);replace B0:=B0.kept (Kept.new (Below.refl _ ((w.alloc (.cells l0.toArray t0)).alloc (.cells l1.toArray t1))) (.cells l2.toArray t2));replace B1:=B1.kept (Kept.new (Below.refl _ ((w.alloc (.cells l0.toArray t0)).alloc (.cells l1.toArray t1))) (.cells l2.toArray t2));replace K1:=Kept.new K1 (.cells l2.toArray t2);have B3:=Bx.new (((w.alloc (.cells l0.toArray t0)).alloc (.cells l1.toArray t1)).alloc (.cells l2.toArray t2)) l3 t3 (w.heap.size+3) (by simp);replace B0:=B0.kept (Kept.new (Below.refl _ (((w.alloc (.cells l0.toArray t0)).alloc (.cells l1.toArray t1)).alloc (.cells l2.toArray t2))) (.cells l3.toArray t3));replace B1:=B1.kept (Kept.new (Below.refl _ (((w.alloc (.cells l0.toArray t0)).alloc (.cells l1.toArray t1)).alloc (.cells l2.toArray t2))) (.cells l3.toArray t3));replace B2:=B2.kept (Kept.new (Below.refl _ (((w.alloc (.cells l0.toArray t0)).alloc (.cells l1.toArray t1)).alloc (.cells l2.toArray t2))) (.cells l3.toArray t3));replace K1:=Kept.new K1 (.cells l3.toArray t3);have B4:=Bx.new ((((w.alloc (.cells l0.toArray t0)).alloc (.cells l1.toArray t1)).alloc (.cells l2.toArray t2)).alloc (.cells l3.toArray t3)) l4 t4 (w.heap.size+4) (by simp);replace B0:=B0.kept (Kept.new (Below.refl _ ((((w.alloc (.cells l0.toArray t0)).alloc (.cells l1.toArray t1)).alloc (.cells l2.toArray t2)).alloc (.cells l3.toArray t3))) (.cells l4.toArray t4));replace B1:=B1.kept (Kept.new (Below.refl _ ((((w.alloc (.cells l0.toArray t0)).alloc (.cells l1.toArray t1)).alloc (.cells l2.toArray t2)).alloc (.cells l3.toArray t3))) (.cells l4.toArray t4));replace B2:=B2.kept (Kept.new (Below.refl _ ((((w.alloc (.cells l0.toArray t0)).alloc (.cells l1.toArray t1)).alloc (.cells l2.toArray t2)).alloc (.cells l3.toArray t3))) (.cells l4.toArray t4));replace B3:=B3.kept (Kept.new (Below.refl _ ((((w.alloc (.cells l0.toArray t0)).alloc (.cells l1.toArray t1)).alloc (.cells l2.toArray t2)).alloc (.cells l3.toArray t3))) (.cells l4.toArray t4));replace K1:=Kept.new K1 (.cells l4.toArray t4);exact⟨_,_,rfl,rfl,qh B0,qh B1,qh B2,qh B3,qh B4,qh K1,qh (Nat.le_refl _)⟩
section
section
variable {P : Program} {ops : Array Oper} {Q : Exit → Act → World → Prop} {md : Region.Mode} {S : World → Prop} {last : Nat}
def wpAnyL (P:Program) (md:Region.Mode) (ops:Array Oper) (Q:Exit→Act→World→Prop) (S:World→Prop) (last:Nat):Nat→Array Bool→Act→World→Prop
 |0,listed,a,w=>Region.ready md ops listed=[]∧Q .normal a w
 |fuel+1,listed,a,w=>
  (Region.ready md ops listed=[]→Q .normal a w)∧
  ∀i∈Region.ready md ops listed,wpOp P ops Q i (fun a' w'=>(i≠last→S w')∧wpAnyL P md ops Q S last fuel (listed.setIfInBounds i true) a' w') a w
theorem qhs : ∀(fuel:Nat) (listed:Array Bool) (a:Act) (w:World),wpAnyL P md ops Q S last fuel listed a w→wpAny P md ops Q fuel listed a w
 |0,_,_,_,h=>h
 |fuel+1,_,_,_,h=>⟨h.1,fun i hi=>wpOp_mono (fun a' w' h'=>qhs fuel _ a' w' h'.2) (h.2 i hi)⟩
def waitsFor (md:Region.Mode) (ops:Array Oper) (last i:Nat):Bool:=match ops[last]? with
 |none=>true
 |some o=>o.after.any fun e=>Region.binds md e&&e.on==i
theorem qfa {listed:Array Bool} {i:Nat} (hw:waitsFor md ops last i=true) (hi:i∈Region.ready md ops listed):last ∉ Region.ready md ops listed:=by
 intro hl;obtain⟨_,o,ho,hall⟩:=mem_ready.1 hl;simp only[waitsFor,ho,Array.any_eq_true]at hw;obtain⟨k,hk,he⟩:=hw;simp only[Bool.and_eq_true,beq_iff_eq]at he;have h1:=hall _ (Array.getElem_mem hk) he.1;have h0:=(mem_ready.1 hi).1;rw[he.2]at h1;rcases Nat.lt_or_ge i listed.size with h'|h'
 ·simp [h']at h0 h1;rw[h0]at h1;cases h1
 ·simp [Array.getElem?_eq_none h']at h1
theorem wpAnyL_first {i:Nat} {oi:Oper} {v:Value} (hi:ops[i]? =some oi) (hsel: ∀(j:Nat) (o:Oper) cs b,ops[j]? =some o→o.op≠ .select cs b)
  (hQ: ∀c a w,Q (.panic c) (a.put oi.dst v) w→Q (.panic c) a w) (hlast:waitsFor md ops last i=true) (hil:i≠last):
  ∀(fuel:Nat) (listed:Array Bool) (a:Act) (w:World),
   (∀j oj,ops[j]? =some oj→j≠i→listed.getD j true=false→(∀e∈oj.after,Region.binds md e=true→e.on≠i)→oi.apart ops oj=true)→
   i∈Region.ready md ops listed→YieldsIf P ops S oi v a→S w→
   wpAnyL P md ops Q S last fuel (listed.setIfInBounds i true) (a.put oi.dst v) w→wpAnyL P md ops Q S last (fuel+1) listed a w:=by
 intro fuel;induction fuel with
 |zero=>
  intro listed a w _ hr hy hS H;refine⟨fun h=>(by rw[h]at hr;cases hr),fun j hj=>?_⟩;by_cases hji:j=i
  ·subst hji;exact hy.wpOp hi hS ⟨fun _=>hS,H⟩
  ·have:=ready_mono hj hji
   rw[H.1]at this;cases this
 |succ fuel ih=>
  intro listed a w hfree hr hy hS H;refine⟨fun h=>(by rw[h]at hr;cases hr),fun j hj=>?_⟩;by_cases hji:j=i
  ·subst hji;exact hy.wpOp hi hS ⟨fun _=>hS,H⟩
  ·have hjl:j≠last:=fun e=>qfa hlast hr (e ▸ hj)
   have h1:=H.2 j (ready_mono hj hji);obtain⟨hjun,oj,hoj,hall⟩:=mem_ready.1 hj
   have hnot: ∀e∈oj.after,Region.binds md e=true→e.on≠i:=fun e he hb heq=>by
    have h1:=hall e he hb;have h0:=(mem_ready.1 hr).1;rw[heq]at h1;rcases Nat.lt_or_ge i listed.size with h'|h'
    ·simp [h']at h0 h1;rw[h0]at h1;cases h1
    ·simp [Array.getElem?_eq_none h']at h1
   have h2:=wpOp_putIf hoj (hfree j oj hoj hji hjun hnot) (fun cs b=>hsel i oi cs b hi) (fun cs b=>hsel j oj cs b hoj) hQ hy h1
   have hfree': ∀k ok,ops[k]? =some ok→k≠i→(listed.setIfInBounds j true).getD k true=false→
     (∀e∈ok.after,Region.binds md e=true→e.on≠i)→oi.apart ops ok=true:=fun k ok hk hki hun hno=>by
    refine hfree k ok hk hki ?_ hno;by_cases hjk:j=k
    ·subst hjk;exact hjun
    ·rw [getD_set_ne true hjk]at hun;exact hun
   refine wpOp_mono (fun a' w' h3=>⟨fun _=>h3.2.1 hjl,ih (listed.setIfInBounds j true) a' w' hfree' (ready_mono hr (Ne.symm hji)) h3.1 (h3.2.1 hjl) ?_⟩) h2;rw[Array.setIfInBounds_comm _ _ hji];exact h3.2.2
theorem qjy {i:Nat} {oi:Oper} {v:Value} (d:Option Tmp) {fuel:Nat} {listed:Array Bool} {a:Act} {w:World} (hi:ops[i]? =some oi) (hd:oi.dst=d)
  (hs:Region.noSelect ops=true) (hf:Region.free md ops listed i=true) (hr:(Region.ready md ops listed).contains i=true) (hl:(waitsFor md ops last i&&i != last)=true)
  (hQ: ∀c a w,Q (.panic c) (a.put d v) w→Q (.panic c) a w) (hy:YieldsIf P ops S oi v a) (hS:S w)
  (h:wpAnyL P md ops Q S last fuel (listed.setIfInBounds i true) (a.put d v) w):wpAnyL P md ops Q S last (fuel+1) listed a w:=by
 simp only[Bool.and_eq_true,bne_iff_ne]at hl;subst hd;exact wpAnyL_first hi (Region.noSelect_spec hs) hQ hl.1 hl.2 fuel listed a w (Region.free_spec hi hf) (by simpa using hr) hy hS h
theorem qks {i:Nat} {o:Oper} {fuel:Nat} {listed:Array Bool} {a:Act} {w:World} (hr:Region.ready md ops listed=[i]) (ho:ops[i]? =some o)
  (h: ∀K':Act→World→Prop,Shut (∀a w,S w→(S w→wpAnyL P md ops Q S last fuel (listed.setIfInBounds i true) a w)→K' a w)→if Region.wanted o (yielded ops a.tmps)=true then Oper.wp P o a w K' Q else K' (a.put o.dst undef) w):
  wpAnyL P md ops Q S last (fuel+1) listed a w:=by
 refine⟨fun h0=>(by rw[hr]at h0;cases h0),fun j hj=>?_⟩;rw[hr]at hj;obtain rfl:j=i:=by simpa using hj
 exact wpOp_step ho (fun K' hK=>h K' (fun a w hS hW=>hK a w ⟨fun _=>hS,hW hS⟩))
theorem qkZ {o:Oper} {fuel:Nat} {listed:Array Bool} {a:Act} {w:World} (hr:Region.ready md ops listed=[last]) (ho:ops[last]? =some o)
  (h: ∀K':Act→World→Prop,Shut (∀a w,wpAnyL P md ops Q S last fuel (listed.setIfInBounds last true) a w→K' a w)→if Region.wanted o (yielded ops a.tmps)=true then Oper.wp P o a w K' Q else K' (a.put o.dst undef) w):
  wpAnyL P md ops Q S last (fuel+1) listed a w:=by
 refine⟨fun h0=>(by rw[hr]at h0;cases h0),fun j hj=>?_⟩;rw[hr]at hj;obtain rfl:j=last:=by simpa using hj
 exact wpOp_step ho (fun K' hK=>h K' (fun a w hW=>hK a w ⟨fun hne=>absurd rfl hne,hW⟩))
theorem qjG {listed:Array Bool} {a:Act} {w:World} (hr:Region.ready md ops listed=[]) (h:Q .normal a w): ∀fuel,wpAnyL P md ops Q S last fuel listed a w
 |0=>⟨hr,h⟩
 |_+1=>⟨fun _=>h,by rw[hr];simp⟩
theorem qbg {id:Nat} {a:Act} {w:World} (S:World→Prop) (last:Nat) (hm:P.follows .mixedOrders=true) (hS:S w.drew)
  (h:S w.drew→wpAnyL P .any ops Q S last ops.size (Array.replicate ops.size false) a w.drew):(Code.region id ops true).wp P Q a w:=
 wp_region_any hm (qhs _ _ _ _ (h hS))
end
end
section
section
variable {F : Fence} {n : Nat} {P : Program} {md : Region.Mode} {ops : Array Oper} {C : World → Prop}
def qhv (l:List Oper):Bool:=l.all fun o=>match o.op with|.defer _=>false|_=>true
theorem qhH {ops:Array Oper} (h:qhv ops.toList=true) {i:Nat} {o:Oper} (ho:ops[i]? =some o): ∀c,o.op≠ .defer c:=by
 intro c e;have h1:=List.all_eq_true.1 h o (by rw[Array.mem_toList_iff];exact Array.mem_of_getElem? ho);rw[e]at h1;cases h1
end
end
section
section
variable {P : Program} {ops : Array Oper} {Q : Exit → Act → World → Prop} {md : Region.Mode} {S : World → Prop} {last l n : Nat}
theorem Oper.qbl {o:Oper} {a:Act} {w:World} {next:Act→World→Prop} (hd: ∀c,o.op≠ .defer c) (h:Oper.wp P o a w next Q):o.wpIn (Fence.wide.inRound l) n P a w next Q:=by
 unfold Oper.wp at h;unfold Oper.wpIn;refine⟨fun _ _=>trivial,?_⟩;rw[Oper.semAt_eq _ _ _ hd];generalize(execOp a.eval o).run P w=r at *;cases r with
 |ok x w'=>
  cases x<;>simp only[Oper.upon]at h<;>simp only[Oper.uponIn]
  case value=>exact h
  case skip=>exact h
  case defer=>exact h
  case enter f args=>exact⟨fun h0=>by simp[Fence.inRound,Fence.wide]at h0,callsIn_wide.2 h⟩
  case row r args=>exact⟨fun h0=>by simp[Fence.inRound,Fence.wide]at h0,fun c cs _=>let ⟨v,w2,r9,s9⟩:=h c cs;⟨v,w2,r9,stepsIn_wide.2 s9⟩⟩
 |halt x w'=>cases x<;>simp only[Oper.upon]at h<;>simp only[Oper.uponIn];exact h
def qdS (Q:Exit→Act→World→Prop):Exit→Act→World→Prop
 |.normal,a,w=>Q .normal a w
 |_,_,_=>False
theorem qdS.ok {a:Act} {w:World} (h:Q .normal a w):qdS Q .normal a w:=h
theorem qdS.imp : ∀(e:Exit) (a:Act) (w:World),qdS Q e a w→Q e a w:=fun e a w h=>by
 cases e<;>first|exact h|exact(h:False).elim
theorem qdS.out : ¬LetsOut (qdS Q):=fun⟨_,_,h⟩=>h
theorem qcf (hp:qhv ops.toList=true) (hout: ¬LetsOut Q): ∀(fuel:Nat) (listed:Array Bool) (a:Act) (w:World),wpAny P md ops Q fuel listed a w→wpAnyIn (Fence.wide.inRound l) n P md ops Q fuel listed a w
 |0,_,_,_,h=>h
 |fuel+1,listed,a,w,h=>⟨h.1,fun i hi=>by
  have h1:=h.2 i hi;unfold wpOp at h1;unfold wpOpIn;split
  ·rename_i ho;simp only[ho]at h1;exact qcf hp hout fuel _ _ _ h1
  ·rename_i o ho
   simp only[ho]at h1;split
   ·rename_i hw
    simp only[hw,if_true]at h1;rcases h1 with h1|h1
    ·exact Oper.qbl (qhH hp ho) (Oper.wp_mono (fun a' w' h'=>qcf hp hout fuel _ a' w' h') h1)
    ·exact absurd h1.2 hout
   ·rename_i hw
    simp only[hw]at h1;exact⟨fun _ _=>trivial,qcf hp hout fuel _ _ _ h1⟩⟩
end
end
section
section
variable {P : Program} {ops : Array Oper} {Q : Exit → Act → World → Prop} {md : Region.Mode} {S : World → Prop} {fr : List Nat}
def wpAnyS (P:Program) (md:Region.Mode) (ops:Array Oper) (Q:Exit→Act→World→Prop) (S:World→Prop) (fr:List Nat):Nat→Array Bool→Act→World→Prop
 |0,listed,a,w=>Region.ready md ops listed=[]∧Q .normal a w
 |fuel+1,listed,a,w=>
  (Region.ready md ops listed=[]→Q .normal a w)∧
  ∀i∈Region.ready md ops listed,wpOp P ops Q i (fun a' w'=>(i ∉ fr→S w')∧wpAnyS P md ops Q S fr fuel (listed.setIfInBounds i true) a' w') a w
theorem qfd : ∀(fuel:Nat) (listed:Array Bool) (a:Act) (w:World),wpAnyS P md ops Q S fr fuel listed a w→wpAny P md ops Q fuel listed a w
 |0,_,_,_,h=>h
 |fuel+1,_,_,_,h=>⟨h.1,fun i hi=>wpOp_mono (fun a' w' h'=>qfd fuel _ a' w' h'.2) (h.2 i hi)⟩
def behind (md:Region.Mode) (ops:Array Oper) (i:Nat):List Nat:=(List.range ops.size).foldl (fun U j=>if (i::U).any (fun x=>waitsFor md ops j x)then U++[j]else U) []
def okU (md:Region.Mode) (ops:Array Oper) (listed:Array Bool) (fr:List Nat) (i:Nat) (U:List Nat):Bool:=
 (fr.all fun j=>U.contains j)&&(U.all fun u=> !listed.getD u true&&(i::U).any fun x=>waitsFor md ops u x)&& !U.contains i
theorem qfG {listed:Array Bool} {j i:Nat} (hw:waitsFor md ops j i=true) (hi:listed.getD i true=false):j ∉ Region.ready md ops listed:=by
 intro hl;obtain⟨_,o,ho,hall⟩:=mem_ready.1 hl;simp only[waitsFor,ho,Array.any_eq_true]at hw;obtain⟨k,hk,he⟩:=hw;simp only[Bool.and_eq_true,beq_iff_eq]at he;have h1:=hall _ (Array.getElem_mem hk) he.1;rw[he.2]at h1;rcases Nat.lt_or_ge i listed.size with h'|h'
 ·simp [h']at hi h1;rw[hi]at h1;cases h1
 ·simp [Array.getElem?_eq_none h']at h1
theorem qhc {listed:Array Bool} {i:Nat} (hi:i∈Region.ready md ops listed):listed.getD i true=false:=(mem_ready.1 hi).1
theorem wpAnyS_first {i:Nat} {oi:Oper} {v:Value} {U:List Nat} (hi:ops[i]? =some oi) (hsel: ∀(j:Nat) (o:Oper) cs b,ops[j]? =some o→o.op≠ .select cs b)
  (hQ: ∀c a w,Q (.panic c) (a.put oi.dst v) w→Q (.panic c) a w) (hfr: ∀j∈fr,j∈U) (hiU:i ∉ U):
  ∀(fuel:Nat) (listed:Array Bool) (a:Act) (w:World),(∀u∈U,listed.getD u true=false∧∃x,(x=i∨x∈U)∧waitsFor md ops u x=true)→
   (∀j oj,ops[j]? =some oj→j≠i→listed.getD j true=false→(∀e∈oj.after,Region.binds md e=true→e.on≠i)→oi.apart ops oj=true)→
   i∈Region.ready md ops listed→YieldsIf P ops S oi v a→S w→
   wpAnyS P md ops Q S fr fuel (listed.setIfInBounds i true) (a.put oi.dst v) w→wpAnyS P md ops Q S fr (fuel+1) listed a w:=by
 intro fuel;induction fuel with
 |zero=>
  intro listed a w _ _ hr hy hS H;refine⟨fun h=>(by rw[h]at hr;cases hr),fun j hj=>?_⟩;by_cases hji:j=i
  ·subst hji;exact hy.wpOp hi hS ⟨fun _=>hS,H⟩
  ·have:=ready_mono hj hji
   rw[H.1]at this;cases this
 |succ fuel ih=>
  intro listed a w hU hfree hr hy hS H;refine⟨fun h=>(by rw[h]at hr;cases hr),fun j hj=>?_⟩;by_cases hji:j=i
  ·subst hji;exact hy.wpOp hi hS ⟨fun _=>hS,H⟩
  ·have hjU:j ∉ U:=fun hm=>by
    obtain⟨-,x,hx,hw⟩:=hU j hm;refine qfG hw ?_ hj;rcases hx with rfl|hx
    ·exact qhc hr
    ·exact(hU x hx).1
   have hjl:j ∉ fr:=fun hm=>hjU (hfr j hm);have h1:=H.2 j (ready_mono hj hji);obtain⟨hjun,oj,hoj,hall⟩:=mem_ready.1 hj
   have hnot: ∀e∈oj.after,Region.binds md e=true→e.on≠i:=fun e he hb heq=>by
    have h1:=hall e he hb;have h0:=(mem_ready.1 hr).1;rw[heq]at h1;rcases Nat.lt_or_ge i listed.size with h'|h'
    ·simp [h']at h0 h1;rw[h0]at h1;cases h1
    ·simp [Array.getElem?_eq_none h']at h1
   have h2:=wpOp_putIf hoj (hfree j oj hoj hji hjun hnot) (fun cs b=>hsel i oi cs b hi) (fun cs b=>hsel j oj cs b hoj) hQ hy h1
   have hfree': ∀k ok,ops[k]? =some ok→k≠i→(listed.setIfInBounds j true).getD k true=false→
     (∀e∈ok.after,Region.binds md e=true→e.on≠i)→oi.apart ops ok=true:=fun k ok hk hki hun hno=>by
    refine hfree k ok hk hki ?_ hno;by_cases hjk:j=k
    ·subst hjk;exact hjun
    ·rw [getD_set_ne true hjk]at hun;exact hun
   have hU': ∀u∈U,(listed.setIfInBounds j true).getD u true=false∧∃x,(x=i∨x∈U)∧waitsFor md ops u x=true:=fun u hu=>by
    refine⟨?_,(hU u hu).2⟩;have hju:j≠u:=fun e=>hjU (e ▸ hu);rw[getD_set_ne true hju];exact(hU u hu).1
   refine wpOp_mono (fun a' w' h3=>⟨fun _=>h3.2.1 hjl,ih (listed.setIfInBounds j true) a' w' hU' hfree' (ready_mono hr (Ne.symm hji)) h3.1 (h3.2.1 hjl) ?_⟩) h2;rw[Array.setIfInBounds_comm _ _ hji];exact h3.2.2
theorem qgw {i:Nat} {oi:Oper} {v:Value} (d:Option Tmp) {fuel:Nat} {listed:Array Bool} {a:Act} {w:World} (hi:ops[i]? =some oi) (hd:oi.dst=d)
  (hs:Region.noSelect ops=true) (hf:Region.free md ops listed i=true) (hr:(Region.ready md ops listed).contains i=true) (hl:okU md ops listed fr i (behind md ops i)=true)
  (hQ: ∀c a w,Q (.panic c) (a.put d v) w→Q (.panic c) a w) (hy:YieldsIf P ops S oi v a) (hS:S w)
  (h:wpAnyS P md ops Q S fr fuel (listed.setIfInBounds i true) (a.put d v) w):wpAnyS P md ops Q S fr (fuel+1) listed a w:=by
 generalize behind md ops i=U at hl;simp only[okU,Bool.and_eq_true,List.all_eq_true,Bool.not_eq_true',List.any_eq_true,List.mem_cons,List.contains_iff_mem]at hl;subst hd;refine wpAnyS_first (U:=U) hi (Region.noSelect_spec hs) hQ (fun j hj=>by simpa using hl.1.1 j hj) (by simpa using hl.2) fuel listed a w (fun u hu=>?_) (Region.free_spec hi hf) (by simpa using hr) hy hS h;obtain⟨h1,x,h2,h3⟩:=hl.1.2 u hu;exact⟨h1,x,h2,h3⟩
theorem qfe {i:Nat} {o:Oper} {fuel:Nat} {listed:Array Bool} {a:Act} {w:World} (hr:Region.ready md ops listed=[i]) (ho:ops[i]? =some o)
  (h: ∀K':Act→World→Prop,Shut (∀a w,S w→(S w→wpAnyS P md ops Q S fr fuel (listed.setIfInBounds i true) a w)→K' a w)→if Region.wanted o (yielded ops a.tmps)=true then Oper.wp P o a w K' Q else K' (a.put o.dst undef) w):
  wpAnyS P md ops Q S fr (fuel+1) listed a w:=by
 refine⟨fun h0=>(by rw[hr]at h0;cases h0),fun j hj=>?_⟩;rw[hr]at hj;obtain rfl:j=i:=by simpa using hj
 exact wpOp_step ho (fun K' hK=>h K' (fun a w hS hW=>hK a w ⟨fun _=>hS,hW hS⟩))
theorem qky {i j:Nat} {oi oj:Oper} {fuel:Nat} {listed:Array Bool} {a:Act} {w:World} (hr:Region.ready md ops listed=[i,j]) (hi:ops[i]? =some oi) (hj:ops[j]? =some oj)
  (h1: ∀K':Act→World→Prop,Shut (∀a w,S w→(S w→wpAnyS P md ops Q S fr fuel (listed.setIfInBounds i true) a w)→K' a w)→if Region.wanted oi (yielded ops a.tmps)=true then Oper.wp P oi a w K' Q else K' (a.put oi.dst undef) w)
  (h2: ∀K':Act→World→Prop,Shut (∀a w,S w→(S w→wpAnyS P md ops Q S fr fuel (listed.setIfInBounds j true) a w)→K' a w)→if Region.wanted oj (yielded ops a.tmps)=true then Oper.wp P oj a w K' Q else K' (a.put oj.dst undef) w):
  wpAnyS P md ops Q S fr (fuel+1) listed a w:=by
 refine⟨fun h0=>(by rw[hr]at h0;cases h0),fun k hk=>?_⟩;rw[hr]at hk;rcases(by simpa using hk:k=i∨k=j)with rfl|rfl
 ·exact wpOp_step hi (fun K' hK=>h1 K' (fun a w hS hW=>hK a w ⟨fun _=>hS,hW hS⟩))
 ·exact wpOp_step hj (fun K' hK=>h2 K' (fun a w hS hW=>hK a w ⟨fun _=>hS,hW hS⟩))
theorem qlf {i:Nat} {o:Oper} {fuel:Nat} {listed:Array Bool} {a:Act} {w:World} (hr:Region.ready md ops listed=[i]) (ho:ops[i]? =some o) (hf:fr.contains i=true)
  (h: ∀K':Act→World→Prop,Shut (∀a w,wpAnyS P md ops Q S fr fuel (listed.setIfInBounds i true) a w→K' a w)→if Region.wanted o (yielded ops a.tmps)=true then Oper.wp P o a w K' Q else K' (a.put o.dst undef) w):
  wpAnyS P md ops Q S fr (fuel+1) listed a w:=by
 refine⟨fun h0=>(by rw[hr]at h0;cases h0),fun j hj=>?_⟩;rw[hr]at hj;obtain rfl:j=i:=by simpa using hj
 exact wpOp_step ho (fun K' hK=>h K' (fun a w hW=>hK a w ⟨fun hne=>absurd (by simpa using hf) hne,hW⟩))
theorem qjF {listed:Array Bool} {a:Act} {w:World} (hr:Region.ready md ops listed=[]) (h:Q .normal a w): ∀fuel,wpAnyS P md ops Q S fr fuel listed a w
 |0=>⟨hr,h⟩
 |_+1=>⟨fun _=>h,by rw[hr];simp⟩
theorem qac {id:Nat} {a:Act} {w:World} (S:World→Prop) (fr:List Nat) (hm:P.follows .mixedOrders=true) (hS:S w.drew)
  (h:S w.drew→wpAnyS P .any ops Q S fr ops.size (Array.replicate ops.size false) a w.drew):(Code.region id ops true).wp P Q a w:=
 wp_region_any hm (qfd _ _ _ _ (h hS))
theorem qcR {l n id:Nat} {a:Act} {w:World} (S:World→Prop) (fr:List Nat) (hp:qhv ops.toList=true) (hm:P.follows .mixedOrders=true) (hS:S w.drew)
  (h:S w.drew→wpAnyS P .any ops (qdS Q) S fr ops.size (Array.replicate ops.size false) a w.drew):(Code.region id ops true).wpIn (Fence.wide.inRound l) n P Q a w:=
 wpIn_mono (wpIn_region_any hm (qcf hp qdS.out _ _ _ _ (qfd _ _ _ _ (h hS)))) qdS.imp
end
end
section
section
variable {P : Program} {ops : Array Oper} {md : Region.Mode} {C : World → Prop} {last : Nat}
theorem qiH {E:Act→Prop} {a:Act} {o:Oper} {rest:List Oper} {v:Value} (d:Option Tmp) (hd:o.dst=d) (hw:Region.wanted o (yielded ops a.tmps)=true)
  (h: ∀w,C w→(execOp a.eval o).run P w=.ok (.value v) w) (hk:wpQuiet P ops C E rest (a.put d v)):wpQuiet P ops C E (o::rest) a:=by
 subst hd;unfold wpQuiet;rw[if_pos hw];exact⟨v,fun w hC=>by unfold Oper.quietAt;rw[h w hC];exact⟨rfl,rfl⟩,hk⟩
theorem qdi {E:Act→Prop} {a:Act} {o:Oper} {rest:List Oper} {v:Value} {f:FuncId} {args:Array Value} (d:Option Tmp) (hd:o.dst=d) (hw:Region.wanted o (yielded ops a.tmps)=true)
  (he: ∀w,C w→(execOp a.eval o).run P w=.ok (.enter f args) w) (hc: ∀w,C w→Calls P f args w (fun e w'=>e=.returned v∧C w'))
  (hk:wpQuiet P ops C E rest (a.put d v)):wpQuiet P ops C E (o::rest) a:=by
 subst hd;unfold wpQuiet;rw[if_pos hw];exact⟨v,fun w hC=>by unfold Oper.quietAt;rw[he w hC];exact⟨rfl,hc w hC⟩,hk⟩
end
end
section
theorem tdy :(∀ {α:Type} (l:List α) (i:Nat) (x:α),l.toArray.setIfInBounds i x=(l.set i x).toArray)∧(∀ {α:Type} (x y:α) (l:List α),(x::l).set 0 y=y::l)∧(∀ {α:Type} (x y:α) (l:List α) (i:Nat),(x::l).set (i+1) y=x::l.set i y):=
 ⟨fun _ _ _=>List.setIfInBounds_toArray ..,fun _ _ _=>rfl,fun _ _ _ _=>rfl⟩
section
variable {P : Program} {ops : Array Oper} {Q : Exit → Act → World → Prop} {md : Region.Mode} {S : World → Prop} {last : Nat}
theorem wL (i t:Nat) {oi:Oper} {v:Value} {fuel:Nat} {listed:Array Bool} {a a':Act} {w:World} (h:wpAnyL P md ops Q S last fuel (listed.setIfInBounds i true) a' w)
  (hi:ops[i]? =some oi:=by rfl) (hd:oi.dst=some t:=by rfl) (hs:Region.noSelect ops=true:=by kernel_rfl) (hf:Region.free md ops listed i=true:=by kernel_rfl) (hr:(Region.ready md ops listed).contains i=true:=by kernel_rfl) (hl:(waitsFor md ops last i&&i != last)=true:=by kernel_rfl)
  (hw:Region.wanted oi (yielded ops a.tmps)=true:=by rfl) (hy: ∀w,S w→(execOp a.eval oi).run P w=.ok (.value v) w:=by intro w hSw;(try dsimp only at hSw);go_simp;(try with_reducible rfl))
  (hQ: ∀c a w,Q (.panic c) (a.put (some t) v) w→Q (.panic c) a w:=by exact fun _ _ _ h=>h) (hS:S w:=by assumption)
  (ha:a.put (some t) v=a':=by simp only[Act.put,List.setIfInBounds_toArray,List.set_cons_zero,List.set_cons_succ];exact rfl):wpAnyL P md ops Q S last (fuel+1) listed a w:=by
 subst ha;exact qjy (some t) hi hd hs hf hr hl hQ (Or.inl ⟨hw,hy⟩) hS h
theorem oL (i:Nat) {o:Oper} {fuel:Nat} {listed:Array Bool} {a:Act} {w:World} (h: ∀K':Act→World→Prop,Shut (∀a w,S w→(S w→wpAnyL P md ops Q S last fuel (listed.setIfInBounds i true) a w)→K' a w)→if Region.wanted o (yielded ops a.tmps)=true then Oper.wp P o a w K' Q else K' (a.put o.dst undef) w) (hr:Region.ready md ops listed=[i]:=by kernel_rfl) (ho:ops[i]? =some o:=by rfl):wpAnyL P md ops Q S last (fuel+1) listed a w:=qks hr ho h
theorem dL {listed:Array Bool} {a:Act} {w:World} (h:Q .normal a w) (fuel:Nat) (hr:Region.ready md ops listed=[]:=by kernel_rfl):wpAnyL P md ops Q S last fuel listed a w:=qjG hr h fuel
theorem eL {o:Oper} {fuel:Nat} {listed:Array Bool} {a:Act} {w:World} (h: ∀K':Act→World→Prop,Shut (∀a w,wpAnyL P md ops Q S last fuel (listed.setIfInBounds last true) a w→K' a w)→if Region.wanted o (yielded ops a.tmps)=true then Oper.wp P o a w K' Q else K' (a.put o.dst undef) w) (hr:Region.ready md ops listed=[last]:=by kernel_rfl) (ho:ops[last]? =some o:=by rfl):wpAnyL P md ops Q S last (fuel+1) listed a w:=qkZ hr ho h
end
section
variable {P : Program} {ops : Array Oper} {Q : Exit → Act → World → Prop} {md : Region.Mode} {S : World → Prop} {fr : List Nat}
theorem wS (i t:Nat) {oi:Oper} {v:Value} {fuel:Nat} {listed:Array Bool} {a a':Act} {w:World} (h:wpAnyS P md ops Q S fr fuel (listed.setIfInBounds i true) a' w)
  (hi:ops[i]? =some oi:=by rfl) (hd:oi.dst=some t:=by rfl) (hs:Region.noSelect ops=true:=by kernel_rfl) (hf:Region.free md ops listed i=true:=by kernel_rfl) (hr:(Region.ready md ops listed).contains i=true:=by kernel_rfl) (hl:okU md ops listed fr i (behind md ops i)=true:=by kernel_rfl)
  (hw:Region.wanted oi (yielded ops a.tmps)=true:=by rfl) (hy: ∀w,S w→(execOp a.eval oi).run P w=.ok (.value v) w:=by intro w hSw;(try dsimp only at hSw);go_simp;(try with_reducible rfl))
  (hQ: ∀c a w,Q (.panic c) (a.put (some t) v) w→Q (.panic c) a w:=by exact fun _ _ _ h=>h) (hS:S w:=by assumption)
  (ha:a.put (some t) v=a':=by simp only[Act.put,List.setIfInBounds_toArray,List.set_cons_zero,List.set_cons_succ];exact rfl):wpAnyS P md ops Q S fr (fuel+1) listed a w:=by
 subst ha;exact qgw (some t) hi hd hs hf hr hl hQ (Or.inl ⟨hw,hy⟩) hS h
theorem yS (i t:Nat) {oi:Oper} {v:Value} {fuel:Nat} {listed:Array Bool} {a:Act} {w:World} (hy: ∀w,S w→(execOp a.eval oi).run P w=.ok (.value v) w) (h:wpAnyS P md ops Q S fr fuel (listed.setIfInBounds i true) (a.put (some t) v) w)
  (hi:ops[i]? =some oi:=by rfl) (hd:oi.dst=some t:=by rfl) (hs:Region.noSelect ops=true:=by kernel_rfl) (hf:Region.free md ops listed i=true:=by kernel_rfl) (hr:(Region.ready md ops listed).contains i=true:=by kernel_rfl) (hl:okU md ops listed fr i (behind md ops i)=true:=by kernel_rfl)
  (hw:Region.wanted oi (yielded ops a.tmps)=true:=by rfl)
  (hQ: ∀c a w,Q (.panic c) (a.put (some t) v) w→Q (.panic c) a w:=by exact fun _ _ _ h=>h) (hS:S w:=by assumption):wpAnyS P md ops Q S fr (fuel+1) listed a w:=
 qgw (some t) hi hd hs hf hr hl hQ (Or.inl ⟨hw,hy⟩) hS h
theorem oS (i:Nat) {o:Oper} {fuel:Nat} {listed:Array Bool} {a:Act} {w:World} (h: ∀K':Act→World→Prop,Shut (∀a w,S w→(S w→wpAnyS P md ops Q S fr fuel (listed.setIfInBounds i true) a w)→K' a w)→if Region.wanted o (yielded ops a.tmps)=true then Oper.wp P o a w K' Q else K' (a.put o.dst undef) w) (hr:Region.ready md ops listed=[i]:=by kernel_rfl) (ho:ops[i]? =some o:=by rfl):wpAnyS P md ops Q S fr (fuel+1) listed a w:=qfe hr ho h
theorem tS (i j:Nat) {oi oj:Oper} {fuel:Nat} {listed:Array Bool} {a:Act} {w:World} (h1: ∀K':Act→World→Prop,Shut (∀a w,S w→(S w→wpAnyS P md ops Q S fr fuel (listed.setIfInBounds i true) a w)→K' a w)→if Region.wanted oi (yielded ops a.tmps)=true then Oper.wp P oi a w K' Q else K' (a.put oi.dst undef) w) (h2: ∀K':Act→World→Prop,Shut (∀a w,S w→(S w→wpAnyS P md ops Q S fr fuel (listed.setIfInBounds j true) a w)→K' a w)→if Region.wanted oj (yielded ops a.tmps)=true then Oper.wp P oj a w K' Q else K' (a.put oj.dst undef) w) (hr:Region.ready md ops listed=[i,j]:=by kernel_rfl) (hi:ops[i]? =some oi:=by rfl) (hj:ops[j]? =some oj:=by rfl):wpAnyS P md ops Q S fr (fuel+1) listed a w:=qky hr hi hj h1 h2
theorem dS {listed:Array Bool} {a:Act} {w:World} (h:Q .normal a w) (fuel:Nat) (hr:Region.ready md ops listed=[]:=by kernel_rfl):wpAnyS P md ops Q S fr fuel listed a w:=qjF hr h fuel
theorem eS (i:Nat) {o:Oper} {fuel:Nat} {listed:Array Bool} {a:Act} {w:World} (h: ∀K':Act→World→Prop,Shut (∀a w,wpAnyS P md ops Q S fr fuel (listed.setIfInBounds i true) a w→K' a w)→if Region.wanted o (yielded ops a.tmps)=true then Oper.wp P o a w K' Q else K' (a.put o.dst undef) w) (hr:Region.ready md ops listed=[i]:=by kernel_rfl) (ho:ops[i]? =some o:=by rfl) (hf:fr.contains i=true:=by kernel_rfl):wpAnyS P md ops Q S fr (fuel+1) listed a w:=qlf hr ho hf h
end
section
variable {P : Program} {ops : Array Oper} {C : World → Prop}
theorem wQ {E:Act→Prop} {a a':Act} {o:Oper} {rest:List Oper} {v:Value} (d:Option Tmp) (hk:wpQuiet P ops C E rest a') (hy: ∀w,C w→(execOp a.eval o).run P w=.ok (.value v) w) (hd:o.dst=d:=by rfl) (hw:Region.wanted o (yielded ops a.tmps)=true:=by kernel_rfl)
  (ha:a.put d v=a':=by simp only[Act.put,List.setIfInBounds_toArray,List.set_cons_zero,List.set_cons_succ];exact rfl):wpQuiet P ops C E (o::rest) a:=by
 subst ha;exact qiH d hd hw hy hk
end
end
section
variable {F : Fence} {n : Nat} {P : Program} {w : World}
section
variable {α : Type} {fn : FuncId} {tmps : Array Value} {ps : Array Tmp} {assign body : Code}
def qe6 (fn:FuncId) (tmps:Array Value) (ps:Array Tmp) (assign body:Code) (D:Nat) (st:LoopState) (pe:Option Code):Loop:={state:=st,pending:=pe,fn,tmps,params:=ps,assign,body,defers:=D}
structure qcF (W:World) (L D:Nat) (r:Loop):Prop where
 loop:W.heap[L]? =some (.loop r)
 defs:W.heap[D]? =some (.deferred (some []))
theorem qcF.keeps {A B:World} {n₀ L D:Nat} {r:Loop} (h:qcF A L D r) (hk:KeepsFrom n₀ A B) (hL:n₀≤L) (hD:n₀≤D):qcF B L D r:=
 ⟨hk.same _ _ hL h.loop rfl,hk.same _ _ hD h.defs rfl⟩
theorem qcF.lt {W:World} {L D:Nat} {r:Loop} (h:qcF W L D r):L<W.heap.size:=(Array.getElem?_eq_some_iff.1 h.loop).1
theorem qcF.put {W:World} {L D:Nat} {r:Loop} (h:qcF W L D r) (hne:D≠L) (r':Loop):qcF (W.putObj L (.loop r')) L D r':=
 ⟨World.putObj_heap_same h.lt,(World.putObj_heap_other hne).trans h.defs⟩
end
theorem qhC {α:Type} {fn:FuncId} {tmps:Array Value} {ps:Array Tmp} {assign body:Code} {n₀ L D:Nat} {Kp:World→World→Prop} {I:List α→World→Prop} {Ix:Code→List α→World→Prop} {Ax:α→Act→World→Prop}
  {pre:List α} {x:α} {args:Array Value} {W:World} (hfn:F.fn fn) (hL:n₀≤L) (hD:n₀≤D) (hne:D≠L)
  (hKt: ∀{A B C:World},Kp A B→Kp B C→Kp A C) (hKb: ∀(W:World) (l:Nat) (o o':Obj),n₀≤l→W.heap[l]? =some o→o.isCells=false→o.isWalk=false→Kp W (W.putObj l o'))
  (hI:OwnFrom n₀ I) (hIx: ∀c,OwnFrom n₀ (Ix c)) (hAx: ∀x a',OwnFrom n₀ (fun(_:Unit) W=>Ax x a' W)) (hps:args.size=ps.size)
  (hb:qcF W L D (qe6 fn tmps ps assign body D .ready none))
  (hassign: ∀K:Act→World→Prop,(∀a' W',KeepsFrom n₀ W W'→Kp W W'→I pre W'→Ax x a' W'→K a' W')→
   assign.wpIn (F.inRound L) n P (Exit.then K (fun _ _ _=>False)) {tmps:=(ps.zip args).foldl (fun t (p,v)=>t.setIfInBounds p v) tmps,defers:=[]} W)
  (hbody: ∀(a':Act) (W:World),(∃r,W.heap[L]? =some (.loop r))→I pre W→Ax x a' W→body.wpIn (F.inRound L) n P (ownPostG n₀ Kp I Ix (pre++[x]) W) a' W):
  YieldAt F n P L args W fun e W'=>
   (e=.returned (.bool true)∧(I (pre++[x]) W'∧qcF W' L D (qe6 fn tmps ps assign body D .ready none))∧Kp W W')∨
   (e=.returned (.bool false)∧∃c,Ix c (pre++[x]) W'∧qcF W' L D (qe6 fn tmps ps assign body D .done (some c))):=by
 have hy:=run_yield (P:=P) (args:=args) hb.loop hps;refine⟨fn,_,assign,body,hy,roundIn_of_wpIn hfn (hassign _ fun a' Wa hkf hkp hia hax=>?_)⟩;clear hy;have hba:=hb.keeps hkf hL hD;refine⟨_,run_beginRound hba.loop rfl,?_⟩;have hbb:=hba.put hne {qe6 fn tmps ps assign body D .ready none with state:=.busy};refine wpIn_mono (hbody a' _ ⟨_,hbb.loop⟩ (hI.putObj _ hia hL hba.loop rfl) ((hAx x a').putObj (s:=()) _ hax hL hba.loop rfl)) ?_
 have fin: ∀(jump:Option Code) (W3:World),KeepsFrom n₀ (Wa.putObj L (.loop {qe6 fn tmps ps assign body D .ready none with state:=.busy})) W3→
   (Instr.endRound L jump).run P W3=.ok (.bool jump.isNone) (W3.putObj L (.loop (qe6 fn tmps ps assign body D (if jump.isNone then .ready else .done) jump)))∧
   W3.heap[L]? =some (.loop {qe6 fn tmps ps assign body D .ready none with state:=.busy})∧
   qcF (W3.putObj L (.loop (qe6 fn tmps ps assign body D (if jump.isNone then .ready else .done) jump))) L D (qe6 fn tmps ps assign body D (if jump.isNone then .ready else .done) jump):=fun jump W3 hk3=>by
  have hb3:=hbb.keeps hk3 hL hD;exact⟨run_endRound (P:=P) jump hb3.loop,hb3.loop,hb3.put hne _⟩
 rintro e a3 W3 hp;cases e with
 |normal=>
  obtain⟨hk3,hkp3,hi3⟩:=hp;obtain⟨hr,hl3,hb3⟩:=fin none W3 hk3;exact⟨_,_,hr,.inl ⟨rfl,⟨hI.putObj _ hi3 hL hl3 rfl,hb3⟩,hKt hkp (hKt (hKt (hKb _ _ _ _ hL hba.loop rfl rfl) hkp3) (hKb _ _ _ _ hL hl3 rfl rfl))⟩⟩
 |ret=>
  obtain⟨hk3,hi3⟩:=hp;obtain⟨hr,hl3,hb3⟩:=fin (some .ret) W3 hk3;exact⟨_,_,hr,.inr ⟨rfl,.ret,(hIx _).putObj _ hi3 hL hl3 rfl,hb3⟩⟩
 |exit id=>
  obtain⟨hk3,hi3⟩:=hp;obtain⟨hr,hl3,hb3⟩:=fin (some (.exit id)) W3 hk3;exact⟨_,_,hr,.inr ⟨rfl,.exit id,(hIx _).putObj _ hi3 hL hl3 rfl,hb3⟩⟩
 |goto t=>
  obtain⟨hk3,hi3⟩:=hp;obtain⟨hr,hl3,hb3⟩:=fin (some (.goto t)) W3 hk3;exact⟨_,_,hr,.inr ⟨rfl,.goto t,(hIx _).putObj _ hi3 hL hl3 rfl,hb3⟩⟩
 |panic ch=>exact hp.elim
 |outgrown=>exact hp.elim
theorem qdb {F:Fence} {m₀:Nat} {P:Program} (w:World) {ops:Array Oper} {rest:List Oper} {o:Oper} {a:Act} {Q:Exit→Act→World→Prop} (hgd:o.guard=none) (s x:Operand) (t:TypeId)
  (ho:o.op=.call {callee:=.builtin .append,args:=#[s,x],argTypes:=#[t,t]})
  (base:Nat) (e:TypeId) (i:TypeInfo) (z:Value) (size bytes:Nat) (ht:P.underlying t=some (.slice e)) (hi:P.info? e=some i) (hz:i.zero=some z)
  (hsize:i.size=size) (hby:i.bytes=bytes) (hzs:z.cells.size=size) (hsz:0<size)
  (v:Value) (n:Nat) (xs:List Value) (hs:a.eval s=v) (hown:Own w base size v n xs)
  (A:Option Addr) (m c:Nat) (news:List Value) (hx:a.eval x=.slice A m c) (hl:news.length=m*size) (hr:Row w A news) (h1: ∀u∈news,u.oneCell'=true)
  (h63:n+m≤maxLen) (hbytes:(n+m)*bytes≤140737488355328) (hbase:base≤w.heap.size)
  (h: ∀v' w',Own w' base size v' (n+m) (xs++news)→w.grownBy w' v.ownBlock→(v'.ownBlock=v.ownBlock∨∀k,v'.ownBlock=some k→w.heap.size≤k)→wpListIn F m₀ P ops Q rest (a.put o.dst v') w'):wpListIn F m₀ P ops Q (o::rest) a w:=by
 refine wpListIn_plain hgd fun K hK=>?_;obtain⟨v',w',hrun,h2,h3,h4⟩:=qdr (P:=P) w base t o.type e i z size bytes ht hi hz hsize hby hzs hsz v n xs hown A m c news hl hr h1 h63 hbytes hbase;unfold Oper.wpIn;refine⟨?_,?_⟩
 ·simp [Oper.about,ho,resolve,Target.leads,Sem.run_pure]
 ·rw [Oper.semAt_plain F _ _ (by rw[ho];intro c hc';cases hc')]
  simp[execOp,ho,resolve,invoke,builtin,hs,hx,hrun,Result.andThen];exact hK _ _ (h v' w' h2 h3 h4)
end
section
variable {F : Fence} {n : Nat} {P : Program} {w : World}
def qdh {β:Type} (B:Nat) (U:World→Nat→Prop) (J:β→World→Prop):Prop:=
 ∀s W W' row,J s W→W.grownBy W' row→(∀r,row=some r→B≤r∧¬U W r)→J s W'
structure qef (U:World→Nat→Prop) (W W':World):Prop where
 size:W.heap.size≤W'.heap.size
 same: ∀(k:Nat) (o:Obj),W.heap[k]? =some o→o.isCells=true→¬U W k→W'.heap[k]? =some o
 used: ∀k,U W' k→U W k∨W.heap.size≤k
theorem qef.trans {U:World→Nat→Prop} {A B C:World} (h:qef U A B) (g:qef U B C):qef U A C:=
 ⟨Nat.le_trans h.size g.size,fun k o hk ho hu=>g.same k o (h.same k o hk ho hu) ho (fun e=>(h.used k e).elim hu (fun hle=>by have:=(Array.getElem?_eq_some_iff.1 hk).1;omega)),
  fun k e=>(g.used k e).elim (fun e=>h.used k e) (fun hle=>.inr (Nat.le_trans h.size hle))⟩
structure qfO (B:Nat) (U:World→Nat→Prop):Prop where
 step: ∀(W W':World) (row:Option Nat),(∀k,U W k→k<W.heap.size)→W.grownBy W' row→(∀r,row=some r→¬U W r)→∀k,U W' k→U W k
 put: ∀(W:World) (l:Nat) (o o':Obj),B≤l→W.heap[l]? =some o→o.isCells=false→∀k,U (W.putObj l o') k→U W k
def qfF {α:Type} (F:Fence) (n:Nat) (P:Program) (g:Nat) (lb:Array Value) (encs:α→Array Value) (U:World→Nat→Prop) (R:List α→α→World→Prop) (S Sp:List α→Prop) (N:Nat) (w:World):Prop:=
 ∀(l:Nat) (J Jx:List α→World→Prop) (W:World),Below w.heap.size w W→qdh W.heap.size U J→qdh W.heap.size U Jx→(∀pre W,J pre W→∀k,U W k→k<W.heap.size)→
  (∀pre x W1,J pre W1→R pre x W1→pre.length<N→YieldAt F (n-1) P l (encs x) W1 fun e W'=>
   (e=.returned (.bool true)∧J (pre++[x]) W'∧qef U W1 W')∨(e=.returned (.bool false)∧Jx (pre++[x]) W'))→
  J [] W→
  CallsIn F n P g (#[.func (.yield l) #[] #[]]++lb) W fun e W'=>(∃v,e=.returned v)∧((∃xs,S xs∧J xs W')∨(∃pre,Sp pre∧Jx pre W'))
theorem qcF.far {A B:World} {row:Option Nat} {L D:Nat} {r:Loop} (h:qcF A L D r) (hg:A.grownBy B row) (hr: ∀k,row=some k→k≠L∧k≠D):qcF B L D r:=
 ⟨(hg.block L (Array.getElem?_eq_some_iff.1 h.loop).1 (fun e=>(hr L e.symm).1 rfl)).trans h.loop,(hg.block D (Array.getElem?_eq_some_iff.1 h.defs).1 (fun e=>(hr D e.symm).2 rfl)).trans h.defs⟩
theorem qbr {α:Type} {g:Operand} {ps:Array Tmp} {assign body:Code} {Q:Exit→Act→World→Prop} {a:Act} {w:World}
  (hro:F.round=none) (h1:1≤n) {gf:Nat} {lb:Array Value} (hg:a.eval g=.func (.func gf) #[] lb) (hFg:F.fn gf) (eg: ∀args w,(callFunc gf args).run P w=.ok (.enter gf args) w)
  {encs:α→Array Value} {U:World→Nat→Prop} {R:List α→α→World→Prop} {S Sp:List α→Prop} {N:Nat} {w0:World} (hseq:qfF F (n-1) P gf lb encs U R S Sp N w0)
  (hU:qfO w.heap.size U) (hb0:Below w0.heap.size w0 w) (hps: ∀x,(encs x).size=ps.size)
  (I:List α→World→Prop) (Ix:Code→List α→World→Prop) (hI:OwnFrom w.heap.size I) (hIx: ∀c,OwnFrom w.heap.size (Ix c)) (hIU:qdh w.heap.size U I) (hIxU: ∀c,qdh w.heap.size U (Ix c)) (hlt: ∀pre W,I pre W→∀k,U W k→k<W.heap.size)
  (h0:I [] w) (Ax:α→Act→World→Prop) (hAx: ∀x a',OwnFrom w.heap.size (fun(_:Unit) W=>Ax x a' W))
  (hassign: ∀(l:Nat) (pre:List α) (x:α) (W:World) (K:Act→World→Prop),I pre W→R pre x W→(∀a' W',KeepsFrom w.heap.size W W'→qef U W W'→I pre W'→Ax x a' W'→K a' W')→
   assign.wpIn (F.inRound l) (n-1-1) P (Exit.then K (fun _ _ _=>False)) {tmps:=(ps.zip (encs x)).foldl (fun t (p,v)=>t.setIfInBounds p v) a.tmps,defers:=[]} W)
  (hbody: ∀(l:Nat) (pre:List α) (x:α) (a':Act) (W:World),w.heap.size≤l→(∃r,W.heap[l]? =some (.loop r))→I pre W→Ax x a' W→pre.length<N→body.wpIn (F.inRound l) (n-1-1) P (ownPostG w.heap.size (qef U) I Ix (pre++[x]) W) a' W)
  (hdone: ∀(D:Nat) (xs:List α) (W:World),w.heap.size≤D→S xs→I xs W→W.heap[D]? =some (.deferred (some []))→Q .normal {a with defers:={target:=.collected D,args:=#[]}::a.defers} W)
  (hstop: ∀(D:Nat) (c:Code) (pre:List α) (W:World),w.heap.size≤D→Sp pre→Ix c pre W→W.heap[D]? =some (.deferred (some []))→c.wpIn F n P Q {a with defers:={target:=.collected D,args:=#[]}::a.defers} W):
  (Code.rangeFunc g ps assign body).wpIn F n P Q a w:=by
 refine wpIn_rangeFunc fun fn hfn=>?_;rw[hro];obtain⟨W1,hW1⟩: ∃W1,W1=(w.alloc (.deferred (some []))).alloc (.loop (qe6 fn a.tmps ps assign body w.heap.size .ready none)):=⟨_,rfl⟩
 have hsz:W1.heap.size=w.heap.size+2:=by rw[hW1];simp
 have hB1:qcF W1 (w.heap.size+1) w.heap.size (qe6 fn a.tmps ps assign body w.heap.size .ready none):=by
  rw[hW1];have h9:=World.alloc_heap_new (w.alloc (.deferred (some []))) (.loop (qe6 fn a.tmps ps assign body w.heap.size .ready none));rw[World.size_alloc]at h9;exact⟨h9,(Below.heap_alloc _ _ _ (by simp)).trans (World.alloc_heap_new w _)⟩
 have hI1:I [] W1:=by rw[hW1];exact hI.alloc _ (hI.alloc _ h0)
 have hb1:Below w0.heap.size w0 W1:=by
  rw[hW1];exact hb0.trans ((((Below.refl _ w).alloc (Nat.le_refl _) _).alloc (by simp) _).mono hb0.size)
 refine⟨w.heap.size+1,[{target:=.collected w.heap.size,args:=#[]}],W1,{target:=.fn (.func gf) lb,args:=#[.func (.yield (w.heap.size+1)) #[] #[]]},W1,gf,
  #[.func (.yield (w.heap.size+1)) #[] #[]]++lb,W1,by rw[hW1];exact run_enterLoop_outer _ _ _ _ _,by simp only[resolve,hg];simp[go_sem],fun f' hf'=>by simp[Target.leads]at hf';subst hf';exact hFg,by simp[invoke,go_sem,eg],fun _=>h1,?_⟩
 have hKb: ∀(W:World) (l:Nat) (o o':Obj),w.heap.size≤l→W.heap[l]? =some o→o.isCells=false→o.isWalk=false→qef U W (W.putObj l o'):=fun W l o o' hle hl ho _=>
  ⟨by simp,fun k o2 hk hc _=>(World.putObj_heap_other (fun e=>by subst e;rw[hl]at hk;cases hk;rw[ho]at hc;cases hc)).trans hk,fun k e=>.inl (hU.put W l o o' hle hl ho k e)⟩
 refine(hseq (w.heap.size+1)
  (fun pre W=>I pre W∧qcF W (w.heap.size+1) w.heap.size (qe6 fn a.tmps ps assign body w.heap.size .ready none))
  (fun pre W=> ∃c,Ix c pre W∧qcF W (w.heap.size+1) w.heap.size (qe6 fn a.tmps ps assign body w.heap.size .done (some c)))
  W1 hb1 (fun s A B row hs hg' hr=>⟨hIU s A B row hs.1 hg' (fun r e=>⟨by have:=(hr r e).1;omega,(hr r e).2⟩),hs.2.far hg' (fun r e=>by have:=(hr r e).1;constructor<;>omega)⟩)
  (fun s A B row hs hg' hr=>by obtain⟨c,hc,hbk⟩:=hs;exact⟨c,hIxU c s A B row hc hg' (fun r e=>⟨by have:=(hr r e).1;omega,(hr r e).2⟩),hbk.far hg' (fun r e=>by have:=(hr r e).1;constructor<;>omega)⟩)
  (fun pre W hj k hk=>hlt pre W hj.1 k hk)
  (fun pre x W hj hR hlen=>qhC hfn (Nat.le_succ _) (Nat.le_refl _) (by omega) (fun h g=>qef.trans h g) hKb hI hIx hAx (hps x) hj.2 (fun K hK=>hassign _ pre x W K hj.1 hR hK) (fun a' W' hl hi hax=>hbody _ pre x a' W' (Nat.le_succ _) hl hi hax hlen))
  ⟨hI1,hB1⟩).mono ?_
 rintro e W2 ⟨⟨v,rfl⟩,(⟨xs,hS,hi,hb⟩|⟨pre,hSp,c,hi,hb⟩)⟩
 ·exact⟨none,_,run_endLoop (P:=P) hb.loop (by simp[qe6]),hdone _ xs _ (Nat.le_refl _) hS (hI.putObj _ hi (Nat.le_succ _) hb.loop rfl) ((World.putObj_heap_other (by omega)).trans hb.defs)⟩
 ·exact⟨some c,_,run_endLoop (P:=P) hb.loop (by simp[qe6]),hstop _ c pre _ (Nat.le_refl _) hSp ((hIx c).putObj _ hi (Nat.le_succ _) hb.loop rfl) ((World.putObj_heap_other (by omega)).trans hb.defs)⟩
end
section
def qab (B:Nat):List Nat→Nat
 |[]=>0
 |x::l=>x+B*qab B l
section
variable {B : Nat}
theorem qcU : ∀l m:List Nat,qab B (l++m)=qab B l+B ^ l.length*qab B m
 |[],m=>by simp[qab]
 |x::l,m=>by
  simp only[List.cons_append,qab,qcU l m,List.length_cons,Nat.pow_succ,Nat.mul_add,Nat.add_assoc];congr 2
  rw[←Nat.mul_assoc,Nat.mul_comm B]
theorem qn7 (x:Nat):qab B [x]=x:=by simp[qab]
theorem qby (l:List Nat) (x:Nat):qab B (l++[x])=qab B l+B ^ l.length*x:=by rw[qcU,qn7]
theorem qcJ : ∀k,qab B (List.replicate k 0)=0
 |0=>rfl
 |k+1=>by rw[List.replicate_succ,qab,qcJ k];simp
theorem qcn : ∀l:List Nat,(∀x∈l,x<B)→qab B l<B ^ l.length
 |[],_=>by simp[qab]
 |x::l,h=>by
  have h1:=qcn l fun y hy=>h y (List.mem_cons_of_mem _ hy);have h2:=h x (List.mem_cons_self ..);simp only[qab,List.length_cons,Nat.pow_succ]
  have h3:B*qab B l+B≤B ^ l.length*B:=by
   rw[Nat.mul_comm,←Nat.succ_mul];exact Nat.mul_le_mul_right _ h1
  omega
theorem qap (l:List Nat) (i x:Nat) (h:l[i]? =some x):qab B (l.take (i+1))=qab B (l.take i)+B ^ i*x:=by
 have hi:=(List.getElem?_eq_some_iff.1 h).1;rw[List.take_add_one,h,Option.toList_some,qby,List.length_take,Nat.min_eq_left (by omega)]
theorem qcO (l:List Nat) (k:Nat) (hk:k≤l.length):qab B l=qab B (l.take k)+B ^ k*qab B (l.drop k):=by
 conv=>lhs;rw[←List.take_append_drop k l]
 rw[qcU,List.length_take,Nat.min_eq_left hk]
theorem qeV (l:List Nat) (hB:0<B) (hl: ∀x∈l,x<B) (k:Nat) (hk:k≤l.length):qab B (l.drop k)=qab B l / B ^ k:=by
 have h1:=qcO (B:=B) l k hk;have h2:=qcn (B:=B) (l.take k) fun x hx=>hl x (List.mem_of_mem_take hx);rw[List.length_take,Nat.min_eq_left hk]at h2;rw[h1,Nat.add_mul_div_left _ _ (Nat.pow_pos hB),Nat.div_eq_of_lt h2,Nat.zero_add]
theorem qeC (l:List Nat) (hB:0<B) (hl: ∀x∈l,x<B) (i x:Nat) (h:l[i]? =some x):qab B l / B ^ i % B=x:=by
 have hi:=(List.getElem?_eq_some_iff.1 h).1;rw[←qeV l hB hl i (by omega),List.drop_eq_getElem_cons hi,qab,Nat.add_mul_mod_self_left];have hx:l[i]=x:=by rw[List.getElem?_eq_getElem hi]at h;exact Option.some.inj h
 rw[hx];exact Nat.mod_eq_of_lt (hl x (List.mem_of_getElem? h))
structure Dig (B:Nat) (l:List Nat) (n:Nat):Prop where
 ok: ∀x∈l,x<B
 val:qab B l=n
 top:l.getLast? ≠some 0
theorem Dig.nil :Dig B [] 0:=⟨by simp,rfl,by simp⟩
theorem Dig.pos {l:List Nat} {n:Nat} (h:Dig B l n) (hB:0<B) (hl:l≠[]):B ^ (l.length-1)≤n:=by
 obtain⟨m,x,rfl⟩: ∃m x,l=m++[x]:=⟨l.dropLast,l.getLast hl,(List.dropLast_concat_getLast hl).symm⟩
 have hx:x≠0:=fun e=>h.top (by simp[e]);rw[←h.val,qby];simp only[List.length_append,List.length_cons,List.length_nil,Nat.add_sub_cancel,Nat.zero_add];have:B ^ m.length*1≤B ^ m.length*x:=Nat.mul_le_mul_left _ (by omega);omega
theorem Dig.qci {l:List Nat} {n:Nat} (h:Dig B l n) (hB:0<B):l=[]↔n=0:=by
 constructor
 ·rintro rfl;exact h.val.symm
 ·intro e
  by_cases hl:l=[]
  ·exact hl
  ·have:=h.pos hB hl
   have:=Nat.pow_pos (n:=l.length-1) hB;omega
theorem Dig.lt {l:List Nat} {n:Nat} (h:Dig B l n):n<B ^ l.length:=by rw[←h.val];exact qcn l h.ok
theorem Dig.qk2 {l:List Nat} {n k:Nat} (h:Dig B l n) (hB:1<B) (hn:n<B ^ k):l.length≤k:=by
 by_cases hl:l=[]
 ·subst hl;simp
 ·have h1:=h.pos (by omega) hl
  have h2:B ^ (l.length-1)<B ^ k:=Nat.lt_of_le_of_lt h1 hn;have:=(Nat.pow_lt_pow_iff_right hB).1 h2;omega
theorem qi3 (hB:0<B): ∀l m:List Nat,l.length=m.length→(∀x∈l,x<B)→(∀x∈m,x<B)→qab B l=qab B m→l=m
 |[],[],_,_,_,_=>rfl
 |x::l,y::m,hl,h1,h2,h=>by
  have hx:=h1 x (List.mem_cons_self ..);have hy:=h2 y (List.mem_cons_self ..);simp only[qab]at h;have e1:=congrArg (· % B) h;simp only[Nat.add_mul_mod_self_left,Nat.mod_eq_of_lt hx,Nat.mod_eq_of_lt hy]at e1;subst e1;have e2:qab B l=qab B m:=Nat.eq_of_mul_eq_mul_left hB (by omega);rw[qi3 hB l m (by simpa using hl) (fun z hz=>h1 z (List.mem_cons_of_mem _ hz)) (fun z hz=>h2 z (List.mem_cons_of_mem _ hz)) e2]
theorem Dig.uniq {l m:List Nat} {n:Nat} (h:Dig B l n) (k:Dig B m n) (hB:1<B):l=m:=by
 have h1:=h.qk2 hB k.lt;have h2:=k.qk2 hB h.lt;exact qi3 (by omega) l m (by omega) h.ok k.ok (h.val.trans k.val.symm)
theorem Dig.qdo {l m:List Nat} {n k:Nat} (h:Dig B l n) (g:Dig B m k) (hB:0<B) (hlt:l.length<m.length):n<k:=by
 have h1:=h.lt;have h2:=g.pos hB (by intro e;rw[e]at hlt;simp at hlt);have h3:B ^ l.length≤B ^ (m.length-1):=Nat.pow_le_pow_right hB (by omega);omega
theorem qcm {l m:List Nat} (hl: ∀x∈l,x<B) (i x y:Nat) (hlen:l.length=m.length) (hi:l[i]? =some x) (hj:m[i]? =some y) (hd:l.drop (i+1)=m.drop (i+1)) (hxy:x<y):qab B l<qab B m:=by
 have i1:=(List.getElem?_eq_some_iff.1 hi).1;have h1:=qcO (B:=B) l (i+1) (by omega);have h2:=qcO (B:=B) m (i+1) (by omega);rw[qap l i x hi]at h1;rw[qap m i y hj]at h2;have h3:=qcn (B:=B) (l.take i) fun z hz=>hl z (List.mem_of_mem_take hz);rw[List.length_take,Nat.min_eq_left (by omega)]at h3;have h4:B ^ i*(x+1)≤B ^ i*y:=Nat.mul_le_mul_left _ hxy;rw[Nat.mul_add,Nat.mul_one]at h4;rw[h1,h2,hd];omega
end
theorem qev {B:Nat} (D:List Nat) (c x S:Nat) (h:qab B D+c*B ^ D.length=S):qab B (D++[(c+x) % B])+((c+x) / B)*B ^ (D.length+1)=S+B ^ D.length*x:=by
 have h1:=Nat.mod_add_div (c+x) B;rw[qby,Nat.pow_succ,←h]
 have h2:(c+x) / B*(B ^ D.length*B)=B ^ D.length*(B*((c+x) / B)):=by
  rw[Nat.mul_comm ((c+x) / B),Nat.mul_assoc]
 rw[h2,Nat.add_assoc,←Nat.mul_add,h1,Nat.mul_add,Nat.mul_comm c,Nat.add_assoc]
theorem qjl (D:List Nat) (k x:Nat):(D++List.replicate (k+1) 0).set D.length x=(D++[x])++List.replicate k 0:=by
 rw[List.set_append_right _ _ (Nat.le_refl _),Nat.sub_self,List.replicate_succ,List.set_cons_zero];simp
theorem qoH (a b s:Nat) (hb:b<2 ^ s):(a*2 ^ s) ||| b=a*2 ^ s+b:=by
 rw[Nat.mul_comm,←Nat.two_pow_add_eq_or_of_lt hb]
theorem qeW (a b s:Nat) (hb:b<2 ^ s):b ||| (a*2 ^ s)=a*2 ^ s+b:=by
 rw[Nat.or_comm,qoH a b s hb]
end
theorem Own.put {w:World} {base size n c g off:Nat} {xs:List Value} (h:Own w base size (.slice (some ⟨g,off,none⟩) n c) n xs) {j:Nat} (hj:j<n*size) (u:Value):Own (w.setCell ⟨g,off+j,none⟩ u) base size (.slice (some ⟨g,off,none⟩) n c) n (xs.set j u):=by
 rcases h.2 with ⟨hv,_⟩|⟨g',off',cap,hv,hb,hg,hnc,hcm,hx,hc⟩
 ·cases hv
 ·injection hv with hA _ hcc
  injection hA with hA;injection hA with h1 h2;subst h1;subst h2;subst hcc;have hcs:n*size≤c*size:=Nat.mul_le_mul_right _ hnc;refine⟨by simpa using h.1,.inr ⟨g,off,c,rfl,hb,by simpa [World.setCell] using hg,hnc,hcm,fun k v hk=>?_,fun k hk=>?_⟩⟩
  ·by_cases hkj:k=j
   ·subst hkj
    have hlen:=h.1;rw[List.getElem?_set_self (by omega)]at hk;obtain⟨o,ho⟩:=Option.isSome_iff_exists.1 (hc k (by omega)).1;rw[World.cell?_setCell_same _ _ _ ho];exact hk
   ·rw [List.getElem?_set_ne (Ne.symm hkj)]at hk
    rw[World.cell?_setCell_other _ _ _ _ (by first|(simp;done)|(simp;omega))];exact hx k v hk
  ·rw [World.frozen?_setCell]
   refine⟨?_,(hc k hk).2⟩;by_cases hkj:k=j
   ·subst hkj
    obtain⟨o,ho⟩:=Option.isSome_iff_exists.1 (hc k hk).1;rw[World.cell?_setCell_same _ _ _ ho];rfl
   ·rw [World.cell?_setCell_other _ _ _ _ (by first|(simp;done)|(simp;omega))]
    exact(hc k hk).1
theorem Own.cells {w:World} {base size n c g off:Nat} {xs:List Value} (h:Own w base size (.slice (some ⟨g,off,none⟩) n c) n xs) {j:Nat} (hj:j<n*size):(∃u,w.cell? ⟨g,off+j,none⟩=some u)∧w.frozen? ⟨g,off+j,none⟩=false:=by
 rcases h.2 with ⟨hv,_⟩|⟨g',off',cap,hv,hb,hg,hnc,hcm,hx,hc⟩
 ·cases hv
 ·injection hv with hA _ hcc
  injection hA with hA;injection hA with h1 h2;subst h1;subst h2;subst hcc;have hcs:n*size≤c*size:=Nat.mul_le_mul_right _ hnc;exact⟨Option.isSome_iff_exists.1 (hc j (by omega)).1,(hc j (by omega)).2⟩
section
set_option maxHeartbeats 1600000
set_option maxRecDepth 100000
abbrev D32 :=Dig 4294967296
def qaA (l:List Nat):List Value:=l.map fun x:Nat=>.int .u32 (x:Int)
theorem qgv (l:List Nat):(qaA l).length=l.length:=by simp[qaA]
theorem qnM (l:List Nat) (k x:Nat) (h:l[k]? =some x):(qaA l)[k]? =some (.int .u32 (x:Int)):=by simp[qaA,h]
theorem qh5 (l:List Nat) (k:Nat):qaA (l.take k)=(qaA l).take k:=by simp[qaA,List.map_take]
theorem qow (l:List Nat) (k x:Nat):qaA (l.set k x)=(qaA l).set k (.int .u32 (x:Int)):=by simp[qaA,List.map_set]
theorem qbO {W:World} {A:Option Addr} {l:List Nat} (h:Row W A (qaA l)) {k x:Nat} (hx:l[k]? =some x): ∃b off,A=some ⟨b,off,none⟩∧W.cell? ⟨b,off+k,none⟩=some (.int .u32 (x:Int)):=by
 have hk:=(List.getElem?_eq_some_iff.1 hx).1;obtain⟨b,off,hA,hc⟩:=h.at_ (k:=k) (by rw[qgv];exact hk);refine⟨b,off,hA,?_⟩;rw[hc];have:=qnM l k x hx;rw[List.getElem?_eq_getElem (by rw[qgv];exact hk)]at this;exact this
def qb7 (W:World) (v:Value) (n k:Nat):Prop:= ∃A c l,v=.slice A l.length c∧l.length≤c∧l.length≤k∧Row W A (qaA l)∧D32 l n
theorem qb7.kept {W W':World} {v:Value} {n k:Nat} (h:qb7 W v n k) (hk:Kept W W'):qb7 W' v n k:=by
 obtain⟨A,c,l,h1,h2,h3,h4,h5⟩:=h;exact⟨A,c,l,h1,h2,h3,h4.kept hk,h5⟩
theorem qjm (A:Option Addr) (c:Nat) (l:List Nat) (w:World) (hl:l.length≤1000000000) (hc:l.length≤c) (hr:Row w A (qaA l)) (hok: ∀x∈l,x<4294967296):
  Calls prog 182 #[.slice A l.length c] w fun e w'=> ∃m,e=.returned (.slice A m c)∧m≤l.length∧D32 (l.take m) (qab 4294967296 l)∧w'=w:=by
 have HR:=qh hr;have HO:=qh hok;obtain⟨n,hn⟩: ∃n,n=l.length:=⟨_,rfl⟩
 rw[←hn]at hl hc⊢;have HN:=qh hn;clear hr hok hn;go_enter func182,ntmps182
 go_wp2_with fail
 go_loopg [0] n (fun gh v0 wr=>v0=.slice A gh c∧gh≤n∧qab 4294967296 (l.take gh)=qab 4294967296 l∧wr=w)
 case atStart=>exact⟨rfl,Nat.le_refl _,by rw[List.take_of_length_le (by have:=HN.out;omega)],rfl⟩
 case round=>
  obtain⟨rfl,hgn,hv,rfl⟩:=hrel;cases gk with
  |zero=>
   have HV:=qh hv;clear hv;go_wp2_with fail
   go_ret
   exact⟨0,rfl,by omega,⟨by simp,by rw[←HV.out],by simp⟩,rfl⟩
  |succ gh=>
   obtain⟨x,hx⟩: ∃x,l[gh]? =some x:=⟨_,List.getElem?_eq_getElem (by have:=HN.out;omega)⟩
   obtain⟨b,off,rfl,hc0⟩:=qbO HR.out hx;have HX:=qh hx;have HV:=qh hv;have hxb:=HO.out x (List.mem_of_getElem? hx);clear hv hx;by_cases h0:x=0
   ·subst h0
    go_wp2_with fail
    go_roundg gh
    case measure=>omega
    case rel=>exact⟨rfl,by omega,by rw[←HV.out,qap l gh 0 HX.out];simp,rfl⟩
   ·have h1: ¬(x:Int)=0:=by omega
    go_wp2_with fail
    go_ret
    exact⟨gh+1,rfl,by omega,⟨fun y hy=>HO.out y (List.mem_of_mem_take hy),HV.out,by
     rw[List.take_add_one,HX.out];simp;omega⟩,rfl⟩
def qbG (x y:Nat):Int:=if x<y then -1 else if y<x then 1 else 0
theorem qcw {x y:Nat} (h:x<y):qbG x y= -1:=by unfold qbG;rw[if_pos h]
theorem qdd {x y:Nat} (h:y<x):qbG x y=1:=by unfold qbG;rw[if_neg (by omega),if_pos h]
theorem qei (x:Nat):qbG x x=0:=by unfold qbG;rw[if_neg (by omega),if_neg (by omega)]
theorem qhd (A A':Option Addr) (c c':Nat) (l l':List Nat) (x y:Nat) (w:World) (hl:l.length≤1000000000) (hl':l'.length≤1000000000) (hr:Row w A (qaA l)) (hr':Row w A' (qaA l')) (hd:D32 l x) (hd':D32 l' y):
  Calls prog 155 #[.slice A l.length c,.slice A' l'.length c'] w fun e w'=>e=.returned (.int .i64 (qbG x y))∧∃m,w'=w.drewN m:=by
 have HR:=qh hr;have HR':=qh hr';have HD:=qh hd;have HD':=qh hd';clear hr hr' hd hd';rcases Nat.lt_trichotomy l.length l'.length with h|h|h
 ·have HL:=qh (HD.out.qdo HD'.out (by omega) h)
  have h1: ¬(l.length:Int)=l'.length:=by omega
  have h2:(l.length:Int)<l'.length:=by omega
  go_enter func155,ntmps155
  go_wp2_with fail
  go_ret
  exact⟨qaW (qcw HL.out).symm,0,rfl⟩
 ·obtain⟨n,hn⟩: ∃n,n=l.length:=⟨_,rfl⟩
  rw[←h,←hn];have HN:=qh (And.intro hn (hn.trans h));rw[←hn]at hl;clear h hl' hn;go_enter func155,ntmps155
  go_wp2_with fail
  go_loopg [5] n (fun gh v5 wr=>v5=.int .i64 ((gh:Int)-1)∧gh≤n∧l.drop gh=l'.drop gh∧∃m,wr=w.drewN m)
  case atStart=>exact⟨by go_num,Nat.le_refl _,by rw[List.drop_eq_nil_of_le (by have:=HN.out.1;omega),List.drop_eq_nil_of_le (by have:=HN.out.2;omega)],0,rfl⟩
  case round=>
   obtain⟨rfl,hgn,hv,m,rfl⟩:=hrel;cases gk with
   |zero=>
    have HV:=qh (show x=y by rw[←HD.out.val,←HD'.out.val];simpa using congrArg (qab 4294967296) hv);clear hv;go_wp2_with fail
    go_ret
    exact⟨qaW (by rw[HV.out,qei]),m,rfl⟩
   |succ gh=>
    obtain⟨a,ha⟩: ∃x,l[gh]? =some x:=⟨_,List.getElem?_eq_getElem (by have:=HN.out.1;omega)⟩
    obtain⟨b,hb⟩: ∃x,l'[gh]? =some x:=⟨_,List.getElem?_eq_getElem (by have:=HN.out.2;omega)⟩
    obtain⟨ba,oa,rfl,ca⟩:=qbO HR.out ha;obtain⟨bb,ob,rfl,cb⟩:=qbO HR'.out hb;have HA:=qh (And.intro ha hb);have HV:=qh hv;have hab:=HD.out.ok a (List.mem_of_getElem? ha);have hbb:=HD'.out.ok b (List.mem_of_getElem? hb);have hg1:((gh:Int)+1-1)=gh:=by omega
    have hg2:(0:Int)≤gh:=by omega
    have hg3:(gh:Int)<n:=by omega
    clear hv ha hb;by_cases h0:a=b
    ·subst h0
     go_wp2_with fail
     go_quiet (fail)
     go_wp2_with fail
     go_roundg gh
     case measure=>omega
     case rel=>exact⟨by go_num,by omega,by rw[List.drop_eq_getElem_cons (by have:=HN.out.1;omega),List.drop_eq_getElem_cons (show gh<l'.length by have:=HN.out.2;omega),HV.out];congr 1;have e1:=HA.out.1;have e2:=HA.out.2;rw[List.getElem?_eq_getElem (by have:=HN.out.1;omega)]at e1;rw[List.getElem?_eq_getElem (by have:=HN.out.2;omega)]at e2;rw[Option.some.inj e1,Option.some.inj e2],_,rfl⟩
    ·have h1: ¬(a:Int)=b:=by omega
     by_cases h2:a<b
     ·have h3:(a:Int)<b:=by omega
      have HL:=qh (show x<y by rw[←HD.out.val,←HD'.out.val];exact qcm HD.out.ok gh a b (HN.out.1.symm.trans HN.out.2) HA.out.1 HA.out.2 HV.out h2);go_wp2_with fail
      go_quiet (fail)
      go_wp2_with fail
      go_quiet (fail)
      go_wp2_with fail
      go_ret
      exact⟨qaW (qcw HL.out).symm,_,by rw[World.drewN_drewN,World.drewN_drewN]⟩
     ·have h3: ¬(a:Int)<b:=by omega
      have HL:=qh (show y<x by rw[←HD.out.val,←HD'.out.val];exact qcm HD'.out.ok gh b a (HN.out.2.symm.trans HN.out.1) HA.out.2 HA.out.1 HV.out.symm (by omega));go_wp2_with fail
      go_quiet (fail)
      go_wp2_with fail
      go_quiet (fail)
      go_wp2_with fail
      go_ret
      exact⟨qaW (qdd HL.out).symm,_,by rw[World.drewN_drewN,World.drewN_drewN]⟩
 ·have HL:=qh (HD'.out.qdo HD.out (by omega) h)
  have h1: ¬(l.length:Int)=l'.length:=by omega
  have h2: ¬(l.length:Int)<l'.length:=by omega
  go_enter func155,ntmps155
  go_wp2_with fail
  go_ret
  exact⟨qaW (qdd HL.out).symm,0,rfl⟩
end
end Go.Proofs.YtfdnledkcongaaaGreatDoor
