/- What the runner is told of the iterator of tile.Rects. -/
import Derived.Test.YtneakieigiafpaaGreatDoorExN
import Derived.Test.YtneakieigiafpaaGreatDoorRectsO
namespace Go.Proofs.YtneakieigiafpaaGreatDoor
open Go.Ex Go.RowKit
set_option maxRecDepth 100000

/-- The grid in a block. -/
noncomputable def gridOf (cs : List SV) : Option GrD := match cs with
  | [.v (.bool a), .v (.string s), .v (.int .i64 e), .v (.bool b), .v (.string t), .v (.int .i64 f), .v (.int .i64 x), .v (.int .i64 c), .v (.int .i64 d), .v (.int .i64 m), .v (.int .i64 h)] => some ⟨⟨a, s, e⟩, ⟨b, t, f⟩, x, c, d, m, h⟩
  | _ => none
def in64B (x : Int) : Bool := decide (-9223372036854775808 ≤ x) && decide (x ≤ 9223372036854775807)
noncomputable def gridOkB (g : GrD) : Bool := (decide (g.re.n.size ≤ maxLen) && in64B g.re.e) && (decide (g.im.n.size ≤ maxLen) && in64B g.im.e) && in64B g.exp && in64B g.across && in64B g.down && in64B g.wide && in64B g.high
theorem gridOkB_ok {g : GrD} (h : gridOkB g = true) : g.ok := by
  simp only [gridOkB, in64B, Bool.and_eq_true, decide_eq_true_eq] at h
  obtain ⟨⟨⟨⟨⟨⟨⟨h1, h2⟩, h3, h4⟩, h5⟩, h6⟩, h7⟩, h8⟩, h9⟩ := h
  exact ⟨⟨h1, h2⟩, ⟨h3, h4⟩, h5, h6, h7, h8, h9⟩
noncomputable def rectEl (g : GrD) (k : Nat) : List SV := [.v (.int .i64 (.ofNat k)), .agg [.v (.int .i64 (rectX g k)), .v (.int .i64 (rectY g k)), .v (.int .i64 (rectW g k)), .v (.int .i64 (rectH g k))]]
noncomputable def rectsIt (caps : List SV) (heap : List Hp) : Option (List Nat × List (List SV)) := match caps with
  | [.ptr b off] => guardO (Nat.beq off (nat_lit 0)) (bindO (hget heap b) fun bl => bindO (gridOf bl.cells) fun g => guardO (gridOkB g) (some ([b], (List.range (rectsN g)).map (rectEl g))))
  | _ => none
noncomputable def itR : ItO := fun f caps heap => ifB (Nat.beq f 60) (rectsIt caps heap) none
theorem box_kp {ρ : Va} {b : Nat} {g : GrD} {X Y : World} (h : KpI ρ [b] X Y) (hg : GBox X (ρ.blk b) g) : GBox Y (ρ.blk b) g := by
  have key : ∀ o v, X.cell? ⟨ρ.blk b, o, none⟩ = some v → Y.cell? ⟨ρ.blk b, o, none⟩ = some v := fun o v hc => by
    have h1 := hc
    unfold World.cell? at h1
    dsimp only at h1
    cases hx : X.heap[ρ.blk b]? with
    | none => rw [hx] at h1; cases h1
    | some ob =>
      cases ob with
      | cells cs e fz => exact (World.cell?_of_block ((h.2 b (by simp) _ hx rfl).trans hx.symm)).trans hc
      | _ => rw [hx] at h1; cases h1
  obtain ⟨h0, h1, h2, h3, h4, h5, h6, h7, h8, h9, h10⟩ := hg
  exact ⟨key _ _ h0, key _ _ h1, key _ _ h2, key _ _ h3, key _ _ h4, key _ _ h5, key _ _ h6, key _ _ h7, key _ _ h8, key _ _ h9, key _ _ h10⟩
/-- A contract that offers elements in order, as the runner wants it. -/
theorem seqEx_of {P : Program} {f : Nat} {lb : Array Value} {encs : Nat → Array Value} {Kp : World → World → Prop} {N : Nat} {Sp : List Nat → Prop} {w : World}
    (h : SeqOffers Fence.wide 4 P f lb encs Kp (fun pre k _ => k = pre.length ∧ k < N) (fun ys => ys = List.range N) Sp N w) : SeqEx P f lb encs Kp N w := by
  intro l J W hW hJ hY h0
  refine (h l (fun pre W => J pre.length W) (fun _ _ => False) W hW (fun s A B row hs hg hr => hJ _ A B row hs hg hr) (fun s A B row hs hg hr => hs) (fun pre x W1 hj hR hlen => ?_) h0).mono ?_
  · obtain ⟨rfl, hlt⟩ := hR
    obtain ⟨fn, tmps, c1, c2, h1, h2⟩ := hY pre.length W1 hj hlt
    exact ⟨fn, tmps, c1, c2, h1, h2.mono fun e W' h => .inl ⟨h.1, by simpa using h.2.1, h.2.2⟩⟩
  · rintro e W2 ⟨hv, (⟨xs, hS, hj⟩ | ⟨pre, hSp, hj⟩)⟩
    · replace hS : xs = List.range N := hS
      subst hS
      exact ⟨hv, by simpa using hj⟩
    · exact hj.elim
theorem itR_ok : ItOK Tryz.prog itR := by
  intro f caps heap deps els h
  unfold itR at h
  rcases beq_dec f 60 with ⟨e, rfl⟩ | ⟨e, -⟩
  · rw [e, ifB_true] at h
    unfold rectsIt at h
    split at h
    · rename_i b off
      obtain ⟨h0, h⟩ := guardO_eq.1 h
      obtain ⟨bl, hb, h⟩ := bindO_eq.1 h
      obtain ⟨g, hg, h⟩ := bindO_eq.1 h
      obtain ⟨hok, h⟩ := guardO_eq.1 h
      cases h
      obtain rfl : off = 0 := Nat.eq_of_beq_eq_true h0
      have gok := gridOkB_ok hok
      refine ⟨fun el hel x hx n => ?_, fun b' hb' => ?_, fun args w => call_run Tryz.func60 rfl (by kernel_rfl) args w, fun ρ n w hh => ⟨encR g, fun k el hel => ?_, ?_⟩⟩
      · obtain ⟨k, -, rfl⟩ := List.mem_map.1 hel
        simp only [rectEl, List.mem_cons, List.not_mem_nil, or_false] at hx
        rcases hx with rfl | rfl
        · exact Sc.v _ _
        · refine Sc.agg fun y hy => ?_
          simp only [List.mem_cons, List.not_mem_nil, or_false] at hy
          rcases hy with rfl | rfl | rfl | rfl <;> exact Sc.v _ _
      · simp only [List.mem_cons, List.not_mem_nil, or_false] at hb'
        subst hb'
        exact ⟨bl, hb⟩
      · rw [List.getElem?_map] at hel
        cases hk : (List.range (rectsN g))[k]? with
        | none => rw [hk] at hel; cases hel
        | some j =>
          rw [hk] at hel
          cases hel
          obtain ⟨hlt, hj⟩ := List.getElem?_eq_some_iff.1 hk
          obtain rfl : k = j := by simpa using hj
          simp [encR, rectEl, conc_v, conc_agg]
      · have hG : GBox w (ρ.blk b) g := by
          obtain ⟨cells, sz⟩ := bl
          have hbk := hh.bk b _ hb
          unfold gridOf at hg
          dsimp only at hg
          split at hg
          · cases hg
            have key : ∀ (i : Nat) (x : SV) (v : Value), _ = some x → x.conc ρ = v → w.cell? ⟨ρ.blk b, i, none⟩ = some v := fun i x v hx hv => hv ▸ hbk.cell hx
            exact ⟨key 0 _ _ rfl (conc_v _ _), key 1 _ _ rfl (conc_v _ _), key 2 _ _ rfl (conc_v _ _), key 3 _ _ rfl (conc_v _ _), key 4 _ _ rfl (conc_v _ _), key 5 _ _ rfl (conc_v _ _), key 6 _ _ rfl (conc_v _ _), key 7 _ _ rfl (conc_v _ _), key 8 _ _ rfl (conc_v _ _), key 9 _ _ rfl (conc_v _ _), key 10 _ _ rfl (conc_v _ _)⟩
          · cases hg
        rw [List.length_map, List.length_range]
        have hcap : ([SV.ptr b 0].map (SV.conc ρ)).toArray = #[.pointer (some ⟨ρ.blk b, 0, none⟩)] := by simp [conc_ptr]
        rw [hcap]
        exact seqEx_of (rects_offersO (KpI ρ [b]) 4 (by omega) (ρ.blk b) w.heap.size g (fun X Y h hb => box_kp h hb) (fun X Y h => h.1) gok w (lt_of_cell hG.1) (Nat.le_refl _) hG)
    · cases h
  · rw [e, ifB_false] at h
    cases h
end Go.Proofs.YtneakieigiafpaaGreatDoor
