/- RefineReads: at any arguments it answers true, and they stay. No condition but the laid tables, .. -/
import Derived.Test.YtfdnledkcongaaaGreatDoorQ16
import Derived.Test.YtfdnledkcongaaaGreatDoorTie
import Derived.ChangeMaps5
import Derived.SevenTiedAt
set_option linter.all false
namespace Go.Proofs.YtfdnledkcongaaaGreatDoor
open Go.RowKit Go.Proofs.Tryz
open Go.ChangeShapes Go.WideShapes Go.ChangeAt Go.WideMaps Go.WideElems Go.RowKit
set_option maxRecDepth 100000
theorem RefineReads.door_met (os:Os) (args:Array Value):laidMetH Tryz.prog Rows.refineReadsRow.laid ((World.doorLaid Tryz.prog 4000 os).forCall (fun _ _=>0) ⟨#[],args,[]⟩).memory:=
 laidMetH_of_parts3 (fuel:=8) (laidMet_of_run' 8 (by kernel_rfl) (by kernel_rfl)) (by kernel_rfl) (by kernel_rfl)
theorem RefineReads.lifted (os:Os) (started:os.Started) (H:Type) (enc:TypeId×Value→H):
  ReturnsInHanded {} Tryz.checked os 4 .any (fun w args=>(Rows.refineReadsSpec.pre enc Tryz.prog Tryz.f4 [] false w args∧laidMetH Tryz.prog Rows.refineReadsRow.laid w)∧sizedMet enc Tryz.prog Tryz.f4 (OpenSpec.ofChange Rows.refineReadsSpec) false w args)
   (Rows.refineReadsSpec.post enc Tryz.prog Tryz.f4 false true false false):=by
 refine returnsInHanded_of_change_and (C:=Tryz.checked) (X:=fun w _=>laidMetH Tryz.prog Rows.refineReadsRow.laid w) (fun _ _ _ hh h=>h.of_heap hh) qoc started (by kernel_rfl) Tryz.func4
  (ChangeSpec.witness_shaped (enc:=enc) (C:=Tryz.checked) (os:=os) (X:=fun w _=>laidMetH Tryz.prog Rows.refineReadsRow.laid w) false (World.doorLaid Tryz.prog 4000 os) #[.agg ZL4.toArray,.string ⟨#[]⟩,.agg ZL6.toArray] 8 rfl (World.shaped_of_RefB (by kernel_rfl) (by kernel_rfl)) (by kernel_rfl) (by kernel_rfl) (by kernel_rfl) (RefineReads.door_met os _)) ?_
 intro W base args ds gs before hval0 hW _ hsz hL _;have hval: ∀(j:Nat) t v,Tryz.f4.params[j]? =some t→args[j]? =some v→Value.okWide Tryz.prog W .any base t v:=hval0;have hW':=hW;obtain⟨p,q,hA0,hV,rfl,hfz,hnd⟩:=hW;have hA:DataW.TrodAll enc Tryz.prog W 0 (fun _=>true) true Tryz.f4.params.toList args.toList ds p:=hA0;rw[Tryz.params4]at hA hval;obtain⟨v0,vs0,d0,ds0,p0,q0,hargs,rfl,rfl,h0,r0⟩:=trodAll_cons hA;obtain⟨v1,vs1,d1,ds1,p1,q1,rfl,rfl,rfl,h1,r1⟩:=trodAll_cons r0;obtain⟨v2,vs2,d2,ds2,p2,q2,rfl,rfl,rfl,h2,r2⟩:=trodAll_cons r1;obtain⟨rfl,rfl,rfl⟩:=trodAll_nil r2;obtain rfl:args=#[v0,v1,v2]:=by cases args;simp_all
 obtain⟨rfl,rfl⟩:=trodVars_none hV;have k0:=h0;have lt0: ∀x∈p0,x.block<W.heap.size:=by obtain⟨m,hm⟩:=k0;exact DataW.trod_lt m _ _ _ hm
 have k1:=h1;have lt1: ∀x∈p1,x.block<W.heap.size:=by obtain⟨m,hm⟩:=k1;exact DataW.trod_lt m _ _ _ hm
 have k2:=h2;have lt2: ∀x∈p2,x.block<W.heap.size:=by obtain⟨m,hm⟩:=k2;exact DataW.trod_lt m _ _ _ hm
 obtain⟨cs0,rfl,-⟩:=okWide_struct Tryz.underlying26 (hval 0 26 _ rfl rfl);obtain⟨fu0,hf0⟩:=h0;obtain⟨s0,hs0,hc0⟩:=qiN (cs:=cs0.toList) hf0;obtain rfl:cs0=(s0.qd3).toArray:=by rw[←hc0]
 obtain⟨t1,rfl⟩:=okWide_string Tryz.underlying9 (hval 1 9 _ rfl rfl);obtain⟨cs2,rfl,-⟩:=okWide_struct Tryz.underlying31 (hval 2 31 _ rfl rfl);obtain⟨fu2,hf2⟩:=h2;obtain⟨u2,hu2,hc2⟩:=qll (cs:=cs2.toList) hf2;obtain rfl:cs2=(ruL u2).toArray:=by rw[←hc2]
 refine(qlr (s:=s0) (bs:=t1) (u:=u2) hs0 hu2 (qpN hL)).mono fun e W' ⟨he,bel⟩=>?_;subst he;exact⟨_,rfl,_,_,_,[],_,[],hW',trodAll_mk1 (shut_bool Tryz.underlying4 _),(trodAll_cons_mk (Below.trod qes (by kernel_rfl) (of_decide_eq_true (by kernel_rfl)) k0 bel lt0) (trodAll_cons_mk (Below.trod qes (by kernel_rfl) (of_decide_eq_true (by kernel_rfl)) k1 bel lt1) (trodAll_cons_mk (Below.trod qes (by kernel_rfl) (of_decide_eq_true (by kernel_rfl)) k2 bel lt2) (trodAll_mk0)))),rfl,bel.frame _,fun h=>by cases h⟩
theorem RefineReads.over :Rows.refineReadsRow.holds Tryz.pinned (OpenSpec.ofChange Rows.refineReadsSpec):=
 OpenClaim.holds_of_wide 4 Tryz.f4 rfl rfl rfl rfl rfl rfl rfl ⟨rfl,rfl,rfl,rfl,rfl⟩ rfl rfl rfl rfl rfl RefineReads.named Tryz.func4 RefineReads.facts
  (of_decide_eq_true (by kernel_rfl)) (by unfold Func.isWrapper;first|(rw[if_pos (by decide +kernel)];kernel_rfl)|(rw[if_neg (by decide +kernel)];exact⟨rfl,rfl⟩))
  (fun os started H enc _=>RefineReads.lifted os started H enc)
theorem refineReads_proved :Rows.RefineReadsCardSaid:=
 Claim7.holds_tied_plain_at .later [] Rows.refineReadsCard.laidKinds true Rows.refineReadsCard.stood.harness false
  RefineReads.over (fun _ h=>by cases h) RefineReads.wf (fun _ h=>by cases h) refineReads_row_tie rfl ⟨rfl,rfl⟩ qna rfl
  (fun f fn hf hfn=>by
   obtain rfl:f=4:=(Option.some.inj (RefineReads.named.symm.trans hf)).symm;obtain rfl:fn=Tryz.f4:=(Option.some.inj (Tryz.func4.symm.trans hfn)).symm
   exact⟨qkB.symm,fun j t ht=>by
    rw[Tryz.params4]at ht;rcases j with _|_|_|j
    ·obtain rfl:=Option.some.inj ht
     kernel_rfl
    ·obtain rfl:=Option.some.inj ht
     kernel_rfl
    ·obtain rfl:=Option.some.inj ht
     kernel_rfl
    ·simp at ht⟩)
  RefineReads.goes
#print axioms refineReads_proved
end Go.Proofs.YtfdnledkcongaaaGreatDoor
