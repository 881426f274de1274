/- The rounds of the law PictureOne: three times a range over picture.Rows. -/
import Derived.Test.YtbhgcbgaadnfpaaRowsC
import Derived.Test.YtbhgcbgaadnfpaaPicY
import Derived.Deep.LoopGhost
import Derived.Deep.QuietTactic
import Derived.BigQuiet
import Derived.Test.YtbhgcbgaadnfpaaQuietR
import Derived.Test.YtbhgcbgaadnfpaaHold
import Derived.Outline
namespace Go.Proofs.Ytbhgcbgaadnfpaa
open Go.RowKit Go.Shelf
attribute [local go_sem] Oper.semAt_some

/-- What lies in the law's boxes. -/
structure OneAt (W : World) (N5 N6 N9 N10 N11 N12 : Nat) (a d a' d' : Int) (A A' A1 : Option Addr) (n c n' c' c1 : Nat) (most : Int) (ok : Bool) : Prop where
  p0 : W.cell? ⟨N5, 0, none⟩ = some (.int .i64 a)
  p1 : W.cell? ⟨N5, 1, none⟩ = some (.int .i64 d)
  p2 : W.cell? ⟨N5, 2, none⟩ = some (.slice A n c)
  q0 : W.cell? ⟨N6, 0, none⟩ = some (.int .i64 a')
  q1 : W.cell? ⟨N6, 1, none⟩ = some (.int .i64 d')
  q2 : W.cell? ⟨N6, 2, none⟩ = some (.slice A' n' c')
  m0 : W.cell? ⟨N9, 0, none⟩ = some (.int .i64 most)
  r0 : W.cell? ⟨N10, 0, none⟩ = some (.bool false)
  o0 : W.cell? ⟨N11, 0, none⟩ = some (.int .i64 a)
  o1 : W.cell? ⟨N11, 1, none⟩ = some (.int .i64 d)
  o2 : W.cell? ⟨N11, 2, none⟩ = some (.slice A1 n c1)
  k0 : W.cell? ⟨N12, 0, none⟩ = some (.bool ok)
  rf : W.frozen? ⟨N10, 0, none⟩ = false
theorem OneAt.kept {W W' : World} {N5 N6 N9 N10 N11 N12 : Nat} {a d a' d' : Int} {A A' A1 : Option Addr} {n c n' c' c1 : Nat} {most : Int} {ok : Bool} (h : OneAt W N5 N6 N9 N10 N11 N12 a d a' d' A A' A1 n c n' c' c1 most ok) (hk : Kept W W') : OneAt W' N5 N6 N9 N10 N11 N12 a d a' d' A A' A1 n c n' c' c1 most ok :=
  ⟨(hk.cells _ _ (lt_of_cell h.p0)).trans h.p0, (hk.cells _ _ (lt_of_cell h.p1)).trans h.p1, (hk.cells _ _ (lt_of_cell h.p2)).trans h.p2, (hk.cells _ _ (lt_of_cell h.q0)).trans h.q0, (hk.cells _ _ (lt_of_cell h.q1)).trans h.q1, (hk.cells _ _ (lt_of_cell h.q2)).trans h.q2, (hk.cells _ _ (lt_of_cell h.m0)).trans h.m0, (hk.cells _ _ (lt_of_cell h.r0)).trans h.r0, (hk.cells _ _ (lt_of_cell h.o0)).trans h.o0, (hk.cells _ _ (lt_of_cell h.o1)).trans h.o1, (hk.cells _ _ (lt_of_cell h.o2)).trans h.o2, (hk.cells _ _ (lt_of_cell h.k0)).trans h.k0, (hk.thaw _ _ (lt_of_cell h.r0)).trans h.rf⟩

/-- The k-th loop of a code (in the text's order; loops in rounds of a range over a function are not counted). -/
def loops : Code → List Code
  | .seq a b => loops a ++ loops b
  | .cond _ a b => loops a ++ loops b
  | .block _ a => loops a
  | .scope a => loops a
  | .loop a => .loop a :: loops a
  | _ => []

/-- Blocks of deferred calls, each with none, each another, all at or beyond lo. -/
def Defs (lo : Nat) (W : World) : List Deferred → Prop
  | [] => True
  | d :: ds => ∃ D, d = { target := .collected D, args := #[] } ∧ lo ≤ D ∧ W.heap[D]? = some (.deferred (some [])) ∧ ({ target := .collected D, args := #[] } : Deferred) ∉ ds ∧ Defs lo W ds
theorem Defs.lt {lo : Nat} {W : World} : ∀ {ds : List Deferred} {D : Nat}, Defs lo W ds → ({ target := .collected D, args := #[] } : Deferred) ∈ ds → D < W.heap.size
  | _ :: _, D, ⟨D', he, _, hh, _, hd⟩, hm => by
    rcases List.mem_cons.1 hm with h | h
    · rw [he] at h; cases h; exact (Array.getElem?_eq_some_iff.1 hh).1
    · exact hd.lt h
theorem Defs.keeps {lo : Nat} {W W' : World} (hk : ∀ (k : Nat) (o : Obj), W.heap[k]? = some o → o.isCells = false → W'.heap[k]? = some o) : ∀ {ds : List Deferred}, Defs lo W ds → Defs lo W' ds
  | [], _ => trivial
  | _ :: _, ⟨D, he, hl, hh, hn, hd⟩ => ⟨D, he, hl, hk _ _ hh rfl, hn, hd.keeps hk⟩
theorem Defs.put {lo : Nat} {W : World} {D : Nat} {o : Obj} : ∀ {ds : List Deferred}, Defs lo W ds → ({ target := .collected D, args := #[] } : Deferred) ∉ ds → Defs lo (W.putObj D o) ds
  | [], _, _ => trivial
  | _ :: _, ⟨D', he, hl, hh, hn, hd⟩, hm => by
    subst he
    have hne : D' ≠ D := fun e => hm (by subst e; simp)
    exact ⟨D', rfl, hl, (World.putObj_heap_other hne).trans hh, hn, hd.put fun h => hm (List.mem_cons_of_mem _ h)⟩
/-- The blocks of deferred calls are shut, one behind the other. -/
theorem leaves_defs {F : Fence} {n : Nat} {P : Program} {fn : Func} {tmps : Array Value} {R : Ending → World → Prop} {lo : Nat} : ∀ (ds : List Deferred) (W : World), Defs lo W ds →
    (∀ W', Below lo W W' → (∀ b o, (∃ v, W.cell? ⟨b, o, none⟩ = some v) → W'.cell? ⟨b, o, none⟩ = W.cell? ⟨b, o, none⟩) → ∃ v, (results fn tmps).run P W' = .ok v W' ∧ R (.returned v) W') → lo ≤ W.heap.size →
    LeavesInM F n P fn tmps R ds .returning W
  | [], W, _, h, _ => h W (Below.refl _ _) (fun _ _ _ => rfl)
  | _ :: ds, W, ⟨D, he, hl, hh, hn, hd⟩, h, hlo => by
    subst he
    have hD : D < W.heap.size := (Array.getElem?_eq_some_iff.1 hh).1
    have hb : Below lo W (W.putObj D (.deferred none)) := (Below.refl lo W).grown (grownBy_putObj' W D _) hlo (fun k e => by cases e; exact hl)
    refine ⟨by simp, .inl ⟨D, _, rfl, run_takeDeferred hh, leaves_defs ds _ ?_ (fun W' hb' hc' => ?_) (by simpa using hlo)⟩⟩
    · exact hd.put hn
    · refine h W' (hb.trans hb') fun b o hv => ?_
      obtain ⟨v, hv⟩ := hv
      have h1 := cell_kept hv (grownBy_putObj' W D (.deferred none)) (fun r e => by cases e; exact ⟨_, hh, rfl⟩)
      rw [hc' b o ⟨v, h1⟩, h1, hv]

set_option maxRecDepth 100000 in
set_option maxHeartbeats 1600000 in
theorem rounds_bad {N5 N6 N9 N10 N11 N12 : Nat} {a d a' d' : Int} {A A' A1 : Option Addr} {n c n' c' c1 : Nat} {col row most : Int} {L : Code} (hL : (loops (Try.f6.body.getD Code.skip)).getD 1 Code.skip = Code.loop L) {Q : Exit → Act → World → Prop} {X W : World} {B : Nat} {u7 u8 u13 u14 u15 u16 u17 u18 u22 u23 u24 u25 u26 u27 u28 u29 u30 u31 u32 u33 u34 u35 u36 u37 u38 u39 u40 u41 u42 u43 u44 u45 u46 u47 u48 u49 u50 u51 u52 u53 u54 u55 u56 u57 u58 u59 u60 u61 u62 u63 u64 u65 u66 u67 u68 u69 u70 u71 u72 u73 u74 u75 u76 u77 u78 u79 u80 u81 u82 u83 u84 u85 u86 u87 u88 u89 u90 u91 u92 u93 u94 u95 u96 u97 u98 u99 u100 u101 u102 u103 u104 u105 u106 u107 u108 u109 u110 u111 u112 u113 u114 u115 u116 u117 u118 u119 u120 u121 u122 u123 u124 u125 u126 u127 u128 u129 u130 u131 u132 u133 u134 u135 u136 u137 u138 u139 u140 u141 u142 u143 u144 u145 u146 u147 u148 u149 u150 u151 u152 u153 u154 u155 u156 u157 u158 u164 u165 u166 u167 u168 u169 u170 u171 u172 u173 u174 u175 u176 u177 u178 u179 u180 u181 u182 u183 u184 u185 u186 u187 u188 u189 u190 u191 u192 u193 u194 u195 u196 u197 u198 u199 u200 u201 u202 u203 u204 u205 u206 u207 u208 u209 u210 u211 u212 u213 u214 u215 u216 u217 u218 u219 u220 u221 u222 u223 u249 u250 u251 u252 u253 u254 u21 u159 u160 u161 u162 u163 u224 u225 u226 u227 u228 u229 u230 u231 u232 u233 u234 u235 u236 u237 u238 u239 u240 u241 u242 u243 u244 u245 u246 u247 u248 : Value} (hON : OneAt X N5 N6 N9 N10 N11 N12 a d a' d' A A' A1 n c n' c' c1 most false) (hk : Kept X W) (hB : X.heap.size ≤ B) (hc : W.cell? ⟨B, 0, none⟩ = some (.int .i64 0)) (hf : W.frozen? ⟨B, 0, none⟩ = false)
    (hQ : ∀ (B' : Nat) (ds : List Deferred) (u21 u159 u160 u161 u162 u163 u224 u225 u226 u227 u228 u229 u230 u231 u232 u233 u234 u235 u236 u237 u238 u239 u240 u241 u242 u243 u244 u245 u246 u247 u248 : Value) (W' : World), Kept X W' → Defs X.heap.size W' ds → Q (.exit 3) { tmps := #[.agg #[.int .i64 a, .int .i64 d, .slice A n c], .agg #[.int .i64 a', .int .i64 d', .slice A' n' c'], .int .i64 col, .int .i64 row, .int .i64 most, .pointer (some ⟨N5, 0, none⟩), .pointer (some ⟨N6, 0, none⟩), u7, u8, .pointer (some ⟨N9, 0, none⟩), .pointer (some ⟨N10, 0, none⟩), .pointer (some ⟨N11, 0, none⟩), .pointer (some ⟨N12, 0, none⟩), u13, u14, u15, u16, u17, u18, .func (.func 52) #[] #[], .pointer (some ⟨B', 0, none⟩), u21, u22, u23, u24, u25, u26, u27, u28, u29, u30, u31, u32, u33, u34, u35, u36, u37, u38, u39, u40, u41, u42, u43, u44, u45, u46, u47, u48, u49, u50, u51, u52, u53, u54, u55, u56, u57, u58, u59, u60, u61, u62, u63, u64, u65, u66, u67, u68, u69, u70, u71, u72, u73, u74, u75, u76, u77, u78, u79, u80, u81, u82, u83, u84, u85, u86, u87, u88, u89, u90, u91, u92, u93, u94, u95, u96, u97, u98, u99, u100, u101, u102, u103, u104, u105, u106, u107, u108, u109, u110, u111, u112, u113, u114, u115, u116, u117, u118, u119, u120, u121, u122, u123, u124, u125, u126, u127, u128, u129, u130, u131, u132, u133, u134, u135, u136, u137, u138, u139, u140, u141, u142, u143, u144, u145, u146, u147, u148, u149, u150, u151, u152, u153, u154, u155, u156, u157, u158, u159, u160, u161, u162, u163, u164, u165, u166, u167, u168, u169, u170, u171, u172, u173, u174, u175, u176, u177, u178, u179, u180, u181, u182, u183, u184, u185, u186, u187, u188, u189, u190, u191, u192, u193, u194, u195, u196, u197, u198, u199, u200, u201, u202, u203, u204, u205, u206, u207, u208, u209, u210, u211, u212, u213, u214, u215, u216, u217, u218, u219, u220, u221, u222, u223, u224, u225, u226, u227, u228, u229, u230, u231, u232, u233, u234, u235, u236, u237, u238, u239, u240, u241, u242, u243, u244, u245, u246, u247, u248, u249, u250, u251, u252, u253, u254], defers := ds } W') :
    Code.wp Try.prog (.loop L) Q { tmps := #[.agg #[.int .i64 a, .int .i64 d, .slice A n c], .agg #[.int .i64 a', .int .i64 d', .slice A' n' c'], .int .i64 col, .int .i64 row, .int .i64 most, .pointer (some ⟨N5, 0, none⟩), .pointer (some ⟨N6, 0, none⟩), u7, u8, .pointer (some ⟨N9, 0, none⟩), .pointer (some ⟨N10, 0, none⟩), .pointer (some ⟨N11, 0, none⟩), .pointer (some ⟨N12, 0, none⟩), u13, u14, u15, u16, u17, u18, .func (.func 52) #[] #[], .pointer (some ⟨B, 0, none⟩), u21, u22, u23, u24, u25, u26, u27, u28, u29, u30, u31, u32, u33, u34, u35, u36, u37, u38, u39, u40, u41, u42, u43, u44, u45, u46, u47, u48, u49, u50, u51, u52, u53, u54, u55, u56, u57, u58, u59, u60, u61, u62, u63, u64, u65, u66, u67, u68, u69, u70, u71, u72, u73, u74, u75, u76, u77, u78, u79, u80, u81, u82, u83, u84, u85, u86, u87, u88, u89, u90, u91, u92, u93, u94, u95, u96, u97, u98, u99, u100, u101, u102, u103, u104, u105, u106, u107, u108, u109, u110, u111, u112, u113, u114, u115, u116, u117, u118, u119, u120, u121, u122, u123, u124, u125, u126, u127, u128, u129, u130, u131, u132, u133, u134, u135, u136, u137, u138, u139, u140, u141, u142, u143, u144, u145, u146, u147, u148, u149, u150, u151, u152, u153, u154, u155, u156, u157, u158, u159, u160, u161, u162, u163, u164, u165, u166, u167, u168, u169, u170, u171, u172, u173, u174, u175, u176, u177, u178, u179, u180, u181, u182, u183, u184, u185, u186, u187, u188, u189, u190, u191, u192, u193, u194, u195, u196, u197, u198, u199, u200, u201, u202, u203, u204, u205, u206, u207, u208, u209, u210, u211, u212, u213, u214, u215, u216, u217, u218, u219, u220, u221, u222, u223, u224, u225, u226, u227, u228, u229, u230, u231, u232, u233, u234, u235, u236, u237, u238, u239, u240, u241, u242, u243, u244, u245, u246, u247, u248, u249, u250, u251, u252, u253, u254], defers := [] } W := by
  conv at hL => lhs; whnf
  injection hL with hL
  subst hL
  refine wp_loop_ghost_k (fun gh act W => ∃ (r B : Nat) (ds : List Deferred) (u21 u159 u160 u161 u162 u163 u224 u225 u226 u227 u228 u229 u230 u231 u232 u233 u234 u235 u236 u237 u238 u239 u240 u241 u242 u243 u244 u245 u246 u247 u248 : Value), (r + gh = 3 ∧ Kept X W ∧ X.heap.size ≤ B ∧ W.cell? ⟨B, 0, none⟩ = some (.int .i64 r) ∧ W.frozen? ⟨B, 0, none⟩ = false ∧ Defs X.heap.size W ds) ∧ act = { tmps := #[.agg #[.int .i64 a, .int .i64 d, .slice A n c], .agg #[.int .i64 a', .int .i64 d', .slice A' n' c'], .int .i64 col, .int .i64 row, .int .i64 most, .pointer (some ⟨N5, 0, none⟩), .pointer (some ⟨N6, 0, none⟩), u7, u8, .pointer (some ⟨N9, 0, none⟩), .pointer (some ⟨N10, 0, none⟩), .pointer (some ⟨N11, 0, none⟩), .pointer (some ⟨N12, 0, none⟩), u13, u14, u15, u16, u17, u18, .func (.func 52) #[] #[], .pointer (some ⟨B, 0, none⟩), u21, u22, u23, u24, u25, u26, u27, u28, u29, u30, u31, u32, u33, u34, u35, u36, u37, u38, u39, u40, u41, u42, u43, u44, u45, u46, u47, u48, u49, u50, u51, u52, u53, u54, u55, u56, u57, u58, u59, u60, u61, u62, u63, u64, u65, u66, u67, u68, u69, u70, u71, u72, u73, u74, u75, u76, u77, u78, u79, u80, u81, u82, u83, u84, u85, u86, u87, u88, u89, u90, u91, u92, u93, u94, u95, u96, u97, u98, u99, u100, u101, u102, u103, u104, u105, u106, u107, u108, u109, u110, u111, u112, u113, u114, u115, u116, u117, u118, u119, u120, u121, u122, u123, u124, u125, u126, u127, u128, u129, u130, u131, u132, u133, u134, u135, u136, u137, u138, u139, u140, u141, u142, u143, u144, u145, u146, u147, u148, u149, u150, u151, u152, u153, u154, u155, u156, u157, u158, u159, u160, u161, u162, u163, u164, u165, u166, u167, u168, u169, u170, u171, u172, u173, u174, u175, u176, u177, u178, u179, u180, u181, u182, u183, u184, u185, u186, u187, u188, u189, u190, u191, u192, u193, u194, u195, u196, u197, u198, u199, u200, u201, u202, u203, u204, u205, u206, u207, u208, u209, u210, u211, u212, u213, u214, u215, u216, u217, u218, u219, u220, u221, u222, u223, u224, u225, u226, u227, u228, u229, u230, u231, u232, u233, u234, u235, u236, u237, u238, u239, u240, u241, u242, u243, u244, u245, u246, u247, u248, u249, u250, u251, u252, u253, u254], defers := ds }) 3 ⟨0, B, [], u21, u159, u160, u161, u162, u163, u224, u225, u226, u227, u228, u229, u230, u231, u232, u233, u234, u235, u236, u237, u238, u239, u240, u241, u242, u243, u244, u245, u246, u247, u248, ⟨rfl, hk, hB, hc, hf, trivial⟩, rfl⟩ ?_
  have HQ := hide hQ
  have HON := hide hON
  clear hQ hk hB hc hf hON u21 u159 u160 u161 u162 u163 u224 u225 u226 u227 u228 u229 u230 u231 u232 u233 u234 u235 u236 u237 u238 u239 u240 u241 u242 u243 u244 u245 u246 u247 u248
  rintro gk act wr ⟨r, Br, ds, u21, u159, u160, u161, u162, u163, u224, u225, u226, u227, u228, u229, u230, u231, u232, u233, u234, u235, u236, u237, u238, u239, u240, u241, u242, u243, u244, u245, u246, u247, u248, ⟨hrg, hkr, hBr, hcr, hfr, hds⟩, rfl⟩ J K hJ hK
  have HDS := hide hds
  have HKR := hide hkr
  have HHK := hide hK
  clear hds hkr
  cases gk with
  | zero =>
    have hge : ¬ (r : Int) < 3 := by omega
    go_wp2_with fail
    exact HQ.out _ _ _ _ _ _ _ _ _ _ _ _ _ _ _ _ _ _ _ _ _ _ _ _ _ _ _ _ _ _ _ _ _ _ HKR.out HDS.out
  | succ gk =>
    have hlt : (r : Int) < 3 := by omega
    obtain ⟨W1, hW1⟩ : ∃ W1, W1 = wr.alloc (.cells #[.int .i64 0] 3) := ⟨_, rfl⟩
    have hk1 : Kept wr W1 := by rw [hW1]; exact (Below.refl _ _).alloc (Nat.le_refl _) _
    have sz1 : W1.heap.size = wr.heap.size + 1 := by rw [hW1]; simp
    have HK1 := hide (HKR.out.trans' hk1)
    have hn1 : W1.cell? ⟨wr.heap.size, 0, none⟩ = some (.int .i64 0) := by rw [hW1]; simp
    have hr1 := (hk1.cells Br 0 (lt_of_cell hcr)).trans hcr
    have hf1 := (hk1.thaw Br 0 (lt_of_cell hcr)).trans hfr
    have HD1 : Hid (Defs X.heap.size W1 ds) := HDS.out.keeps fun k o h _ => (hk1.block k (Array.getElem?_eq_some_iff.1 h).1).trans h
    have hBW : Br < W1.heap.size := lt_of_cell hr1
    have sz0 : X.heap.size ≤ wr.heap.size := HKR.out.size
    have HN1 := hide hn1
    have HR1 := hide (And.intro hr1 hf1)
    go_wp2_with fail
    rw [← hW1]
    clear hW1 hk1 hcr hfr hr1 hf1
    refine (wpIn_wide (n := 5)).1 (wpIn_rangeOffers (α := Nat × Option Addr × Nat) rfl (by decide) (gf := 52) (lb := #[]) rfl trivial (enters_of Try.func52 (by kernel_rfl) rfl)
      (rows1_offers 4 0 (encO 0) (Below W1.heap.size) (fun _ _ _ => False) W1) belowK_t (belowK_b (Nat.le_refl _)) (Below.refl _ _) (fun _ => rfl)
      (fun _ W => Below W1.heap.size W1 W) (fun _ _ _ => False) (ownFrom_below (Nat.le_refl _) (Nat.le_refl _)) (fun _ s A B row h _ _ => h.elim) (Below.refl _ _) (fun _ _ _ => True) (fun _ _ s A B row _ _ _ => trivial)
      (fun l pre x W K hI hR _ => hR.elim) (fun l pre x a' W _ _ _ _ hlen => absurd hlen (by simp)) ?done (fun D c pre W hD hS _ _ => hS.elim))
    case done =>
      rintro D xs W hD hxs hBel hDef
      have hBel : Kept W1 W := hBel
      have HKW := hide (HK1.out.trans' (show Kept W1 W from hBel))
      have hn2 := (hBel.cells wr.heap.size 0 (by omega)).trans HN1.out
      have hr2 := (hBel.cells Br 0 hBW).trans HR1.out.1
      have hf2 := (hBel.thaw Br 0 hBW).trans HR1.out.2
      have HD2 : Hid (Defs X.heap.size W ({ target := .collected D, args := #[] } :: ds)) :=
        ⟨D, rfl, by omega, hDef, fun h => by have := HD1.out.lt h; omega, HD1.out.keeps fun k o h _ => (hBel.block k (Array.getElem?_eq_some_iff.1 h).1).trans h⟩
      have hsW := hBel.size
      obtain ⟨p0, p1, p2, q0, q1, q2, m0, r0, o0, o1, o2, k0, rf⟩ := HON.out.kept HKW.out
      clear hBel hDef hxs
      go_wp2_with fail
      have HA := hide (show Kept X (W.alloc (.cells #[.int .i64 ((r : Int) + 1)] 3)) ∧ (W.alloc (.cells #[.int .i64 ((r : Int) + 1)] 3)).cell? ⟨W.heap.size, 0, none⟩ = some (.int .i64 ((r + 1 : Nat) : Int)) ∧ (W.alloc (.cells #[.int .i64 ((r : Int) + 1)] 3)).frozen? ⟨W.heap.size, 0, none⟩ = false ∧
          Defs X.heap.size (W.alloc (.cells #[.int .i64 ((r : Int) + 1)] 3)) ({ target := .collected D, args := #[] } :: ds) from
        ⟨HKW.out.alloc HKW.out.size _, by simp, frozen_fresh _ _ _ _, HD2.out.keeps fun k o h _ => (((Below.refl W.heap.size W).alloc (Nat.le_refl _) _).block k (Array.getElem?_eq_some_iff.1 h).1).trans h⟩)
      all_goals
        go_roundg gk
        case measure => omega
        case rel => exact ⟨(by omega : (r + 1) + gk = 3), HA.out.1, by omega, HA.out.2.1, HA.out.2.2.1, HA.out.2.2.2⟩

/-- What holds of a row that is told, in the round's frame. -/
def RowAx (B21 b₀ an : Nat) (g : List UInt8) (fr : Nat → Value → Act) (x : Nat × Option Addr × Nat) (act : Act) (W : World) : Prop :=
  act = fr x.1 (.slice x.2.1 an x.2.2) ∧ W.cell? ⟨B21, 0, none⟩ = some (.int .i64 x.1) ∧ Own W b₀ 1 (.slice x.2.1 an x.2.2) an (bytesV (rowOf an g x.1))
/-- How many rows have been told. -/
def RowI (B21 : Nat) (W1 : World) (k : Nat) (W : World) : Prop := W.cell? ⟨B21, 0, none⟩ = some (.int .i64 k) ∧ W.frozen? ⟨B21, 0, none⟩ = false ∧ Below B21 W1 W
theorem keepsFrom_dn {B : Nat} {W W' : World} (h : KeepsFrom B W W') (n : Nat) : KeepsFrom B W (W'.drewN n) := ⟨h.size, h.same⟩
theorem rowI_own {B21 k : Nat} {W1 : World} {n₀ : Nat} (h1 : B21 ≤ n₀) (h2 : B21 ≤ W1.heap.size) : ∀ W W' row, RowI B21 W1 k W → W.grownBy W' row → (∀ r, row = some r → n₀ ≤ r ∧ ∃ o : Obj, W.heap[r]? = some o ∧ o.isCells = false) → RowI B21 W1 k W' := by
  intro W W' row ⟨hc, hf, hb⟩ hg hr
  exact ⟨cell_kept hc hg (fun r e => (hr r e).2), (frozen_kept hc hg (fun r e => (hr r e).2)).trans hf, ownFrom_below (β := Unit) (B := n₀) h2 h1 () W W' row hb hg hr⟩
theorem own_nocells {w w' : World} {base size : Nat} {v : Value} {n : Nat} {xs : List Value} {row : Option Nat} (h : Own w base size v n xs) (hn : 0 < n) (hsz : 0 < size) (hg : w.grownBy w' row) (hr : ∀ r, row = some r → ∃ o : Obj, w.heap[r]? = some o ∧ o.isCells = false) : Own w' base size v n xs := by
  refine h.grown hg fun k hk e => ?_
  obtain ⟨o, ho, hnc⟩ := hr k e.symm
  have hl := h.1
  obtain ⟨u, hu⟩ : ∃ u, xs[0]? = some u := ⟨_, List.getElem?_eq_getElem (by rw [hl]; exact Nat.mul_pos hn hsz)⟩
  obtain ⟨A, c, rfl, -, -, hrow, -, -⟩ := h.form
  rcases hrow with hx | ⟨b, off, hA, hc⟩
  · rw [hx] at hu; simp at hu
  · have hb : b = k := by rw [hA] at hk; simpa [Value.ownBlock] using hk
    have h1 := hc 0 u hu
    subst hb
    simp only [World.cell?, ho] at h1
    cases o <;> simp_all [Obj.isCells]

theorem keepsFrom_own {B : Nat} {w w' : World} {base b o n c : Nat} {xs : List Value} (h : Own w base 1 (.slice (some ⟨b, o, none⟩) n c) n xs) (hn : 0 < n) (hg : w.grownBy w' (Value.slice (some ⟨b, o, none⟩) n c).ownBlock) : KeepsFrom B w w' := by
  refine ⟨hg.size, fun k ob _ hk hc => (hg.block k (Array.getElem?_eq_some_iff.1 hk).1 fun e => ?_).trans hk⟩
  have e : k = b := by simpa [Value.ownBlock] using e
  subst e
  have hl := h.1
  obtain ⟨u, hu⟩ : ∃ u, xs[0]? = some u := ⟨_, List.getElem?_eq_getElem (by omega)⟩
  rcases h.row with hx | ⟨b', off, hA, hcc⟩
  · rw [hx] at hu; simp at hu
  · injection hA with hA; injection hA with h1 h2
    subst h1
    have h1 := hcc 0 u hu
    simp only [World.cell?, hk] at h1
    cases ob <;> simp_all [Obj.isCells]

set_option maxRecDepth 100000 in
set_option maxHeartbeats 3200000 in
theorem rounds_good {N5 N6 N9 N10 N11 N12 : Nat} {a d a' d' : Int} {A A' A1 : Option Addr} {n c n' c' c1 : Nat} {col row most : Int} {L : Code} (hL : (loops (Try.f6.body.getD Code.skip)).getD 1 Code.skip = Code.loop L) {Q : Exit → Act → World → Prop} {X W : World} {B BI : Nat} {AI : Option Addr} {cI baseI : Nat} {g : List UInt8} {u7 u8 u13 u14 u15 u16 u17 u18 u22 u23 u24 u25 u26 u27 u28 u29 u30 u31 u32 u33 u34 u35 u36 u37 u38 u39 u40 u41 u42 u43 u44 u45 u46 u47 u48 u49 u50 u51 u52 u53 u54 u55 u56 u57 u58 u59 u60 u61 u62 u63 u64 u65 u66 u67 u68 u69 u70 u71 u72 u73 u74 u75 u76 u77 u78 u79 u80 u81 u82 u83 u84 u85 u86 u87 u88 u89 u90 u91 u92 u93 u94 u95 u96 u97 u98 u99 u100 u101 u102 u103 u104 u105 u106 u107 u108 u109 u110 u111 u112 u113 u114 u115 u116 u117 u118 u119 u120 u121 u122 u123 u124 u125 u126 u127 u128 u129 u130 u131 u132 u133 u134 u135 u136 u137 u138 u139 u140 u141 u142 u143 u144 u145 u146 u147 u148 u149 u150 u151 u152 u153 u154 u155 u156 u157 u158 u164 u165 u166 u167 u168 u169 u170 u171 u172 u173 u174 u175 u176 u177 u178 u179 u180 u181 u182 u183 u184 u185 u186 u187 u188 u189 u190 u191 u192 u193 u194 u195 u196 u197 u198 u199 u200 u201 u202 u203 u204 u205 u206 u207 u208 u209 u210 u211 u212 u213 u214 u215 u216 u217 u218 u219 u220 u221 u222 u223 u249 u250 u251 u252 u253 u254 u21 u159 u160 u161 u162 u163 u224 u225 u226 u227 u228 u229 u230 u231 u232 u233 u234 u235 u236 u237 u238 u239 u240 u241 u242 u243 u244 u245 u246 u247 u248 : Value} (hON : OneAt X N5 N6 N9 N10 N11 N12 a d a' d' A A' A1 n c n' c' c1 most true) (hm : mayB a d n = true) (hmo : -9223372036854775808 ≤ most ∧ most ≤ 9223372036854775807)
    (hnc : n ≤ c) (hl : g.length = n) (hr : Row X A (bytesV g)) (hPB : PBox X BI (.int .i64 a) (.int .i64 d) (.slice AI n cI)) (hOI : Own X baseI 1 (.slice AI n cI) n (bytesV g))
    (hk : Kept X W) (hB : X.heap.size ≤ B) (hc : W.cell? ⟨B, 0, none⟩ = some (.int .i64 0)) (hf : W.frozen? ⟨B, 0, none⟩ = false)
    (hQ : ∀ (B' : Nat) (ds : List Deferred) (u21 u159 u160 u161 u162 u163 u224 u225 u226 u227 u228 u229 u230 u231 u232 u233 u234 u235 u236 u237 u238 u239 u240 u241 u242 u243 u244 u245 u246 u247 u248 : Value) (W' : World), Kept X W' → Defs X.heap.size W' ds → Q (.exit 3) { tmps := #[.agg #[.int .i64 a, .int .i64 d, .slice A n c], .agg #[.int .i64 a', .int .i64 d', .slice A' n' c'], .int .i64 col, .int .i64 row, .int .i64 most, .pointer (some ⟨N5, 0, none⟩), .pointer (some ⟨N6, 0, none⟩), u7, u8, .pointer (some ⟨N9, 0, none⟩), .pointer (some ⟨N10, 0, none⟩), .pointer (some ⟨N11, 0, none⟩), .pointer (some ⟨N12, 0, none⟩), u13, u14, u15, u16, u17, u18, .func (.func 53) #[] #[.pointer (some ⟨BI, 0, none⟩)], .pointer (some ⟨B', 0, none⟩), u21, u22, u23, u24, u25, u26, u27, u28, u29, u30, u31, u32, u33, u34, u35, u36, u37, u38, u39, u40, u41, u42, u43, u44, u45, u46, u47, u48, u49, u50, u51, u52, u53, u54, u55, u56, u57, u58, u59, u60, u61, u62, u63, u64, u65, u66, u67, u68, u69, u70, u71, u72, u73, u74, u75, u76, u77, u78, u79, u80, u81, u82, u83, u84, u85, u86, u87, u88, u89, u90, u91, u92, u93, u94, u95, u96, u97, u98, u99, u100, u101, u102, u103, u104, u105, u106, u107, u108, u109, u110, u111, u112, u113, u114, u115, u116, u117, u118, u119, u120, u121, u122, u123, u124, u125, u126, u127, u128, u129, u130, u131, u132, u133, u134, u135, u136, u137, u138, u139, u140, u141, u142, u143, u144, u145, u146, u147, u148, u149, u150, u151, u152, u153, u154, u155, u156, u157, u158, u159, u160, u161, u162, u163, u164, u165, u166, u167, u168, u169, u170, u171, u172, u173, u174, u175, u176, u177, u178, u179, u180, u181, u182, u183, u184, u185, u186, u187, u188, u189, u190, u191, u192, u193, u194, u195, u196, u197, u198, u199, u200, u201, u202, u203, u204, u205, u206, u207, u208, u209, u210, u211, u212, u213, u214, u215, u216, u217, u218, u219, u220, u221, u222, u223, u224, u225, u226, u227, u228, u229, u230, u231, u232, u233, u234, u235, u236, u237, u238, u239, u240, u241, u242, u243, u244, u245, u246, u247, u248, u249, u250, u251, u252, u253, u254], defers := ds } W') :
    Code.wp Try.prog (.loop L) Q { tmps := #[.agg #[.int .i64 a, .int .i64 d, .slice A n c], .agg #[.int .i64 a', .int .i64 d', .slice A' n' c'], .int .i64 col, .int .i64 row, .int .i64 most, .pointer (some ⟨N5, 0, none⟩), .pointer (some ⟨N6, 0, none⟩), u7, u8, .pointer (some ⟨N9, 0, none⟩), .pointer (some ⟨N10, 0, none⟩), .pointer (some ⟨N11, 0, none⟩), .pointer (some ⟨N12, 0, none⟩), u13, u14, u15, u16, u17, u18, .func (.func 53) #[] #[.pointer (some ⟨BI, 0, none⟩)], .pointer (some ⟨B, 0, none⟩), u21, u22, u23, u24, u25, u26, u27, u28, u29, u30, u31, u32, u33, u34, u35, u36, u37, u38, u39, u40, u41, u42, u43, u44, u45, u46, u47, u48, u49, u50, u51, u52, u53, u54, u55, u56, u57, u58, u59, u60, u61, u62, u63, u64, u65, u66, u67, u68, u69, u70, u71, u72, u73, u74, u75, u76, u77, u78, u79, u80, u81, u82, u83, u84, u85, u86, u87, u88, u89, u90, u91, u92, u93, u94, u95, u96, u97, u98, u99, u100, u101, u102, u103, u104, u105, u106, u107, u108, u109, u110, u111, u112, u113, u114, u115, u116, u117, u118, u119, u120, u121, u122, u123, u124, u125, u126, u127, u128, u129, u130, u131, u132, u133, u134, u135, u136, u137, u138, u139, u140, u141, u142, u143, u144, u145, u146, u147, u148, u149, u150, u151, u152, u153, u154, u155, u156, u157, u158, u159, u160, u161, u162, u163, u164, u165, u166, u167, u168, u169, u170, u171, u172, u173, u174, u175, u176, u177, u178, u179, u180, u181, u182, u183, u184, u185, u186, u187, u188, u189, u190, u191, u192, u193, u194, u195, u196, u197, u198, u199, u200, u201, u202, u203, u204, u205, u206, u207, u208, u209, u210, u211, u212, u213, u214, u215, u216, u217, u218, u219, u220, u221, u222, u223, u224, u225, u226, u227, u228, u229, u230, u231, u232, u233, u234, u235, u236, u237, u238, u239, u240, u241, u242, u243, u244, u245, u246, u247, u248, u249, u250, u251, u252, u253, u254], defers := [] } W := by
  conv at hL => lhs; whnf
  injection hL with hL
  subst hL
  refine wp_loop_ghost_k (fun gh act W => ∃ (r B : Nat) (ds : List Deferred) (u21 u159 u160 u161 u162 u163 u224 u225 u226 u227 u228 u229 u230 u231 u232 u233 u234 u235 u236 u237 u238 u239 u240 u241 u242 u243 u244 u245 u246 u247 u248 : Value), (r + gh = 3 ∧ Kept X W ∧ X.heap.size ≤ B ∧ W.cell? ⟨B, 0, none⟩ = some (.int .i64 r) ∧ W.frozen? ⟨B, 0, none⟩ = false ∧ Defs X.heap.size W ds) ∧ act = { tmps := #[.agg #[.int .i64 a, .int .i64 d, .slice A n c], .agg #[.int .i64 a', .int .i64 d', .slice A' n' c'], .int .i64 col, .int .i64 row, .int .i64 most, .pointer (some ⟨N5, 0, none⟩), .pointer (some ⟨N6, 0, none⟩), u7, u8, .pointer (some ⟨N9, 0, none⟩), .pointer (some ⟨N10, 0, none⟩), .pointer (some ⟨N11, 0, none⟩), .pointer (some ⟨N12, 0, none⟩), u13, u14, u15, u16, u17, u18, .func (.func 53) #[] #[.pointer (some ⟨BI, 0, none⟩)], .pointer (some ⟨B, 0, none⟩), u21, u22, u23, u24, u25, u26, u27, u28, u29, u30, u31, u32, u33, u34, u35, u36, u37, u38, u39, u40, u41, u42, u43, u44, u45, u46, u47, u48, u49, u50, u51, u52, u53, u54, u55, u56, u57, u58, u59, u60, u61, u62, u63, u64, u65, u66, u67, u68, u69, u70, u71, u72, u73, u74, u75, u76, u77, u78, u79, u80, u81, u82, u83, u84, u85, u86, u87, u88, u89, u90, u91, u92, u93, u94, u95, u96, u97, u98, u99, u100, u101, u102, u103, u104, u105, u106, u107, u108, u109, u110, u111, u112, u113, u114, u115, u116, u117, u118, u119, u120, u121, u122, u123, u124, u125, u126, u127, u128, u129, u130, u131, u132, u133, u134, u135, u136, u137, u138, u139, u140, u141, u142, u143, u144, u145, u146, u147, u148, u149, u150, u151, u152, u153, u154, u155, u156, u157, u158, u159, u160, u161, u162, u163, u164, u165, u166, u167, u168, u169, u170, u171, u172, u173, u174, u175, u176, u177, u178, u179, u180, u181, u182, u183, u184, u185, u186, u187, u188, u189, u190, u191, u192, u193, u194, u195, u196, u197, u198, u199, u200, u201, u202, u203, u204, u205, u206, u207, u208, u209, u210, u211, u212, u213, u214, u215, u216, u217, u218, u219, u220, u221, u222, u223, u224, u225, u226, u227, u228, u229, u230, u231, u232, u233, u234, u235, u236, u237, u238, u239, u240, u241, u242, u243, u244, u245, u246, u247, u248, u249, u250, u251, u252, u253, u254], defers := ds }) 3 ⟨0, B, [], u21, u159, u160, u161, u162, u163, u224, u225, u226, u227, u228, u229, u230, u231, u232, u233, u234, u235, u236, u237, u238, u239, u240, u241, u242, u243, u244, u245, u246, u247, u248, ⟨rfl, hk, hB, hc, hf, trivial⟩, rfl⟩ ?_
  have HQ := hide hQ
  have HON := hide hON
  have HM := hide hm
  obtain ⟨y1, y2, y3, y4, y5, y6, y7⟩ := mayB_bounds hm
  have HR := hide hr
  have HL := hide hl
  have HPB := hide hPB
  have HOI := hide hOI
  obtain ⟨mo1, mo2⟩ := hmo
  have han : ((a.toNat : Nat) : Int) = a := Int.toNat_of_nonneg (by omega)
  have hdN : ((d.toNat : Nat) : Int) = d := Int.toNat_of_nonneg (by omega)
  have HY5 := hide y5
  obtain ⟨bA, oA, rfl, hbA⟩ : ∃ b off, A = some ⟨b, off, none⟩ ∧ b < X.heap.size := by
    rcases hr with h | ⟨b, off, hA, hcc⟩
    · have h9 : (bytesV g).length = 0 := by rw [h]; rfl
      rw [bytesV_length] at h9; omega
    · obtain ⟨x, hx⟩ : ∃ x, (bytesV g)[0]? = some x := ⟨_, List.getElem?_eq_getElem (by rw [bytesV_length]; omega)⟩
      exact ⟨b, off, hA, lt_of_cell (hcc 0 x hx)⟩
  clear hQ hk hB hc hf hON u21 u159 u160 u161 u162 u163 u224 u225 u226 u227 u228 u229 u230 u231 u232 u233 u234 u235 u236 u237 u238 u239 u240 u241 u242 u243 u244 u245 u246 u247 u248 hr hl hPB hOI hm y5
  rintro gk act Wo ⟨r, Br, ds, u21, u159, u160, u161, u162, u163, u224, u225, u226, u227, u228, u229, u230, u231, u232, u233, u234, u235, u236, u237, u238, u239, u240, u241, u242, u243, u244, u245, u246, u247, u248, ⟨hrg, hkr, hBr, hcr, hfr, hds⟩, rfl⟩ J K hJ hK
  have HDS := hide hds
  have HKR := hide hkr
  have HHK := hide hK
  clear hds hkr
  cases gk with
  | zero =>
    have hge : ¬ (r : Int) < 3 := by omega
    go_wp2_with fail
    exact HQ.out _ _ _ _ _ _ _ _ _ _ _ _ _ _ _ _ _ _ _ _ _ _ _ _ _ _ _ _ _ _ _ _ _ _ HKR.out HDS.out
  | succ gk =>
    have hlt : (r : Int) < 3 := by omega
    obtain ⟨W1, hW1⟩ : ∃ W1, W1 = Wo.alloc (.cells #[.int .i64 0] 3) := ⟨_, rfl⟩
    have hk1 : Kept Wo W1 := by rw [hW1]; exact (Below.refl _ _).alloc (Nat.le_refl _) _
    have sz1 : W1.heap.size = Wo.heap.size + 1 := by rw [hW1]; simp
    have HK1 := hide (HKR.out.trans' hk1)
    have HK01 := hide hk1
    have hn1 : W1.cell? ⟨Wo.heap.size, 0, none⟩ = some (.int .i64 0) := by rw [hW1]; simp
    have hnf : W1.frozen? ⟨Wo.heap.size, 0, none⟩ = false := by rw [hW1]; exact frozen_fresh _ _ _ _
    have hr1 := (hk1.cells Br 0 (lt_of_cell hcr)).trans hcr
    have hf1 := (hk1.thaw Br 0 (lt_of_cell hcr)).trans hfr
    have HD1 : Hid (Defs X.heap.size W1 ds) := HDS.out.keeps fun k o h _ => (hk1.block k (Array.getElem?_eq_some_iff.1 h).1).trans h
    have hBW : Br < Wo.heap.size := lt_of_cell hcr
    have sz0 : X.heap.size ≤ Wo.heap.size := HKR.out.size
    have HN1 := hide (And.intro hn1 hnf)
    have HR1 := hide (And.intro hr1 hf1)
    have HSZ := hide sz1
    go_wp2_with fail
    rw [← hW1]
    clear hW1 hk1 hcr hfr hr1 hf1 hnf hn1
    refine (wpIn_wide (n := 5)).1 (wpIn_rangeOffers (α := Nat × Option Addr × Nat) rfl (by decide) (gf := 53) (lb := #[.pointer (some ⟨BI, 0, none⟩)]) rfl trivial (enters_of Try.func53 (by kernel_rfl) rfl)
      (rows2_offers 4 (by omega) a d AI n cI g BI Wo.heap.size W1 HM.out HL.out (by omega) (by have := HPB.out.lt; omega) (HPB.out.kept HK1.out) baseI (HOI.out.kept HK1.out) (fun k hk => by have := (HOI.out.lt k hk).2; omega) W1.heap.size (Nat.le_refl _)) belowK_t (belowK_b (by omega)) (Below.refl _ _) (fun _ => rfl)
      (fun pre W => RowI Wo.heap.size W1 pre.length W) (fun cc pre W => cc = .exit 5 ∧ r = 1 ∧ (pre.length : Int) = most ∧ RowI Wo.heap.size W1 pre.length W) (fun pre W W' row h hg hr => rowI_own (by omega) (by omega) W W' row h hg hr) (fun cc pre W W' row h hg hr => ⟨h.1, h.2.1, h.2.2.1, rowI_own (by omega) (by omega) W W' row h.2.2.2 hg hr⟩)
      ⟨HN1.out.1, HN1.out.2, Below.refl _ _⟩ (RowAx Wo.heap.size W1.heap.size a.toNat g (fun k v => { tmps := #[.agg #[.int .i64 a, .int .i64 d, .slice (some ⟨bA, oA, none⟩) n c], .agg #[.int .i64 a', .int .i64 d', .slice A' n' c'], .int .i64 col, .int .i64 row, .int .i64 most, .pointer (some ⟨N5, 0, none⟩), .pointer (some ⟨N6, 0, none⟩), u7, u8, .pointer (some ⟨N9, 0, none⟩), .pointer (some ⟨N10, 0, none⟩), .pointer (some ⟨N11, 0, none⟩), .pointer (some ⟨N12, 0, none⟩), u13, u14, u15, u16, u17, u18, .func (.func 53) #[] #[.pointer (some ⟨BI, 0, none⟩)], .pointer (some ⟨Br, 0, none⟩), .pointer (some ⟨Wo.heap.size, 0, none⟩), .int .i64 (k : Nat), v, u24, u25, u26, u27, u28, u29, u30, u31, u32, u33, u34, u35, u36, u37, u38, u39, u40, u41, u42, u43, u44, u45, u46, u47, u48, u49, u50, u51, u52, u53, u54, u55, u56, u57, u58, u59, u60, u61, u62, u63, u64, u65, u66, u67, u68, u69, u70, u71, u72, u73, u74, u75, u76, u77, u78, u79, u80, u81, u82, u83, u84, u85, u86, u87, u88, u89, u90, u91, u92, u93, u94, u95, u96, u97, u98, u99, u100, u101, u102, u103, u104, u105, u106, u107, u108, u109, u110, u111, u112, u113, u114, u115, u116, u117, u118, u119, u120, u121, u122, u123, u124, u125, u126, u127, u128, u129, u130, u131, u132, u133, u134, u135, u136, u137, u138, u139, u140, u141, u142, u143, u144, u145, u146, u147, u148, u149, u150, u151, u152, u153, u154, u155, u156, u157, u158, .int .i64 (r : Int), .bool true, u161, u162, .func (.func 53) #[] #[.pointer (some ⟨BI, 0, none⟩)], .int .i64 (k : Nat), v, u166, u167, u168, u169, u170, u171, u172, u173, u174, u175, u176, u177, u178, u179, u180, u181, u182, u183, u184, u185, u186, u187, u188, u189, u190, u191, u192, u193, u194, u195, u196, u197, u198, u199, u200, u201, u202, u203, u204, u205, u206, u207, u208, u209, u210, u211, u212, u213, u214, u215, u216, u217, u218, u219, u220, u221, u222, u223, u224, u225, u226, u227, u228, u229, u230, u231, u232, u233, u234, u235, u236, u237, u238, u239, u240, u241, u242, u243, u244, u245, u246, u247, u248, u249, u250, u251, u252, u253, u254], defers := [] }))
      (fun x a' s W W' row h hg hr => ⟨h.1, cell_kept h.2.1 hg (fun r e => (hr r e).2), own_nocells h.2.2 (by omega) (by omega) hg (fun r e => (hr r e).2)⟩)
      ?assign ?body ?done ?stop)
    case assign =>
      rintro l pre ⟨k, A3, c3⟩ W K2 hI ⟨hkp, hO⟩ hK2
      obtain rfl : k = pre.length := hkp
      simp only [encO]
      have HO := hide hO
      have HI := hide hI
      clear hO hI
      gi_wp2
      exact hK2 _ _ (KeepsFrom.refl _ _) (Below.refl _ _) HI.out ⟨rfl, HI.out.1, HO.out⟩
    case body =>
      rintro l pre ⟨k, A3, c3⟩ a' W hl ⟨rc, hrc⟩ ⟨hI1, hI2, hI3⟩ ⟨rfl, hA2, hO⟩ hlt2
      simp only at hA2 hO
      have hkl : k = pre.length := by
        rw [hI1] at hA2
        have h9 : ((pre.length : Nat) : Int) = ((k : Nat) : Int) := by simpa using hA2
        omega
      have HPL := hide hkl
      have hkd : k < d.toNat := by omega
      have hkI : (k : Int) < d := by omega
      rw [← hkl] at hI1
      have HKW : Hid (Kept X W) := HK1.out.trans (hI3.mono (by omega))
      have hrW := (hI3.cell (p := ⟨Br, 0, none⟩) hBW).trans HR1.out.1
      obtain ⟨p0, p1, p2, q0, q1, q2, m0, r0, o0, o1, o2, k0, rf⟩ := HON.out.kept HKW.out
      have HO := hide hO
      have HI3 := hide hI3
      have HI := hide (And.intro hI1 hI2)
      have p6 : 0 ≤ (k : Int) * a := Int.mul_nonneg (by omega) (by omega)
      have p8 : (k : Int) * a + a = ((k : Int) + 1) * a := by rw [Int.add_mul]; omega
      have p7 : ((k : Int) + 1) * a ≤ n := by rw [HY5.out, Int.mul_comm a d]; exact Int.mul_le_mul_of_nonneg_right (by omega) (by omega)
      have p9 : (k : Int) * a ≤ ((k : Int) + 1) * a := by omega
      have p10 : ¬ c = ((k : Int) * a).toNat := by omega
      have p11 : ((k : Int) + 1) * a ≤ (c : Int) := by omega
      have hLK : ((((k : Int) + 1) * a).toNat - ((k : Int) * a).toNat) = a.toNat := by omega
      have hLO : ((k : Int) * a).toNat = k * a.toNat := by rw [Int.toNat_mul (by omega) (by omega)]; rfl
      have hrl : (rowOf a.toNat g k).length = a.toNat := rowOf_length a.toNat g k d.toNat (by
        have e : ((a.toNat * d.toNat : Nat) : Int) = a * d := by rw [Int.natCast_mul, han, hdN]
        have := HY5.out; have := HL.out; omega) hkd
      have hRp : Row W (some ⟨bA, oA + ((k : Int) * a).toNat, none⟩) (bytesV (rowOf a.toNat g k)) := by
        have h9 := ((HR.out.kept HKW.out).drop (k * a.toNat)).take a.toNat
        rw [bytesV_drop, bytesV_take] at h9
        rw [hLO]
        rw [show Option.map (fun x : Addr => x.add (k * a.toNat)) (some ⟨bA, oA, none⟩) = some ⟨bA, oA + k * a.toNat, none⟩ from congrArg some (add_zero_addr _ _ _)] at h9
        exact h9
      obtain ⟨RS, hRS⟩ : ∃ RS : ByteArray, RS = ⟨(rowOf a.toNat g k).toArray⟩ := ⟨_, rfl⟩
      have hcv1 : ∀ i, (convert 22 9 (.slice A3 a.toNat c3)).run Try.prog (W.drewN i) = .ok (.string RS) (W.drewN i) := fun i => by
        rw [hRS]; exact conv_row Try.underlying22 Try.underlying5 Try.underlying9 hrl (show Row W _ _ from hO.row)
      have hcv2 : ∀ i, (convert 22 9 (.slice (some ⟨bA, oA + ((k : Int) * a).toNat, none⟩) ((((k : Int) + 1) * a).toNat - ((k : Int) * a).toNat) (c - ((k : Int) * a).toNat))).run Try.prog (W.drewN i) = .ok (.string RS) (W.drewN i) := fun i => by
        rw [hRS, hLK]; exact conv_row Try.underlying22 Try.underlying5 Try.underlying9 hrl (show Row W _ _ from hRp)
      have hss : (RS.toList == RS.toList) = true := by simp
      have hnge : ¬ d ≤ (k : Int) := by omega
      have hdc : decide (d ≤ (k : Int)) = false := by simp; omega
      clear hRS hRp hLO hLK hrl hkl hA2 hO hI3 p8
      gi_wp2
      refine wpIn_region_quiet_litR (by kernel_rfl) (by kernel_rfl) (by kernel_rfl) ?_
      repeat (gi_big_quiet_step (fail))
      refine wpQuietIn_nil ?_
      intro _ hw'
      obtain ⟨nq, hw''⟩ := hw'
      subst hw''
      gi_wp2
      clear hcv1 hcv2 hss p0 p1 p2 q0 q1 q2 m0 r0 o0 o1 o2 k0 rf p6 p7 p9 p10 p11 hnge hdc
      obtain ⟨b3, o3, rfl, hb3⟩ : ∃ b o, A3 = some ⟨b, o, none⟩ ∧ W1.heap.size ≤ b := by
        obtain ⟨A9, c9, hv, -, -, -, h8, h9⟩ := HO.out.form
        injection hv with hv1 hv2 hv3
        subst hv1
        cases A3 with
        | none => have := (h9 rfl).1; omega
        | some q => obtain ⟨h1, h2, -⟩ := h8 q rfl; obtain ⟨qb, qo, qs⟩ := q; simp at h1 h2; subst h1; exact ⟨qb, qo, rfl, h2⟩
      obtain ⟨an, hane⟩ : ∃ an, an = a.toNat := ⟨_, rfl⟩
      have hann : (an : Int) = a := by omega
      rw [← hane] at HO ⊢
      have HAN := hide hane
      clear hane
      gi_loopw [24] (fun ix wx => ∃ (j : Nat) (ys : List Value), j ≤ an ∧ ix = .int .i64 j ∧ Own wx W1.heap.size 1 (.slice (some ⟨b3, o3, none⟩) an c3) an ys ∧ Hid (∀ u ∈ ys, ∃ z : Int, u = .int .u8 z) ∧ RowI Wo.heap.size W1 k wx ∧ KeepsFrom W1.heap.size W wx ∧ Below Wo.heap.size W wx) (fun ix _ => an - (intOf ix).toNat)
      case atStart => exact ⟨0, _, Nat.zero_le _, rfl, HO.out, (fun u hu => (by obtain ⟨x, -, rfl⟩ := List.mem_map.1 hu; exact ⟨_, rfl⟩)), ⟨HI.out.1, HI.out.2, HI3.out.trans (drewN_below (Below.refl _ _) _)⟩, keepsFrom_dn (KeepsFrom.refl _ _) _, drewN_below (Below.refl _ _) _⟩
      case round =>
        obtain ⟨j, ys, hj, rfl, hO1, HY, hRI, hKF, hBl⟩ := hrel
        by_cases hjn : j < an
        · have hjI : (j : Int) < (an : Int) := by omega
          obtain ⟨x, hx⟩ : ∃ x, ys[j]? = some x := ⟨_, List.getElem?_eq_getElem (by have := hO1.1; omega)⟩
          obtain ⟨z, rfl⟩ := HY.out x (List.mem_of_getElem? hx)
          obtain ⟨hcj, hfj⟩ : wr.cell? ⟨b3, o3 + j, none⟩ = some (.int .u8 z) ∧ wr.frozen? ⟨b3, o3 + j, none⟩ = false := by
            rcases hO1.2 with ⟨hv, _⟩ | ⟨g', off', cap, hv, hb, hg, hnc, hcm, hxx, hcc⟩
            · cases hv
            · injection hv with hA _ hcx
              injection hA with hA; injection hA with h1 h2
              subst h1; subst h2; subst hcx
              exact ⟨hxx j _ hx, (hcc j (by omega)).2⟩
          have HF := hide (And.intro hO1 (And.intro hRI (And.intro hKF hBl)))
          have hb3' : Wo.heap.size < b3 := by omega
          clear hx hO1 hRI hKF hBl
          gi_wp2
          go_roundw
          case rel =>
            obtain ⟨hO1, hRI, hKF, hBl⟩ := HF.out
            refine ⟨j + 1, _, by omega, by go_num, hO1.store hjn _, (fun u hu => ?_), ⟨?_, ?_, ?_⟩, hKF.trans ((KeepsOthers.setCell _ _ _).from _), hBl.setCell (by show Wo.heap.size ≤ b3; omega) _⟩
            · rcases List.mem_or_eq_of_mem_set hu with h | rfl
              · exact HY.out u h
              · exact ⟨_, rfl⟩
            · rw [World.cell?_setCell_other _ _ _ _ (by first | (simp; done) | (simp; omega))]; exact hRI.1
            · rw [World.frozen?_setCell]; exact hRI.2.1
            · exact hRI.2.2.setCell (by show Wo.heap.size ≤ b3; omega) _
          case measure => simp [intOf]; omega
        · have hjI : ¬ (j : Int) < (an : Int) := by omega
          obtain ⟨i0, hi, hi0, hi1, hi2⟩ := info_parts info_u8
          have HF := hide (And.intro hRI (And.intro hKF hBl))
          have HO1 := hide hO1
          have han4 : an ≤ 4194304 := by omega
          clear hRI hKF hBl hO1 HY
          gi_wp2_with (refine wpListIn_append_row _ rfl _ _ 22 rfl W1.heap.size 5 i0 (.int .u8 0) 1 1 Try.underlying22 hi hi0 hi1 hi2 rfl (by decide) (.slice (some ⟨b3, o3, none⟩) an c3) an ys rfl (HO1.out.alloc _) (some ⟨wr.heap.size, 0, none⟩) 3 3 (bytesV [1, 2, 3]) rfl rfl (Row.new_at _ _ _ _ _ _ rfl rfl) (bytesV_one _) (by unfold maxLen; omega) (by omega) (by have := HF.out.1.2.2.size; simp; omega) ?_)
          intro v2 w2 hown2 hg2 _
          obtain ⟨A2, c2, rfl, hcc2, -, -, -⟩ := hown2.form
          have hk2 : Below W1.heap.size wr w2 := by
            have h8 := (Below.refl W1.heap.size wr).alloc (by have := HF.out.1.2.2.size; omega) (.cells #[.int .u8 1, .int .u8 2, .int .u8 3] 5)
            exact below_append h8 (HO1.out.alloc _) (Nat.le_refl _) (by have := HF.out.1.2.2.size; simp; omega) hg2
          have hK2 : KeepsFrom W1.heap.size wr w2 := by
            exact ((KeepsOthers.alloc wr _).from _).trans (keepsFrom_own (HO1.out.alloc _) (by omega) hg2)
          have HRI : Hid (RowI Wo.heap.size W1 k w2) := by
            obtain ⟨⟨h1, h2, h3⟩, -, -⟩ := HF.out
            exact ⟨(hk2.cell (p := ⟨Wo.heap.size, 0, none⟩) (by simp; omega)).trans h1, (hk2.frozen (p := ⟨Wo.heap.size, 0, none⟩) (by simp; omega)).trans h2, h3.trans (hk2.mono (by omega))⟩
          have HK2 := hide (HF.out.2.1.trans hK2)
          have HB2 := hide (HF.out.2.2.trans (hk2.mono (by omega)))
          have hn2 := HRI.out.1
          have hnf2 := HRI.out.2.1
          have hc1 : 1 ≤ c2 := by omega
          have hrr : w2.cell? ⟨Br, 0, none⟩ = some (.int .i64 r) := (HRI.out.2.2.cell (p := ⟨Br, 0, none⟩) hBW).trans HR1.out.1
          have hN9 : w2.cell? ⟨N9, 0, none⟩ = some (.int .i64 most) := by
            have h9 := HON.out.kept (HK1.out.trans (HRI.out.2.2.mono (by omega)))
            exact h9.m0
          clear hown2 hg2 hk2 hK2 HF HO1
          have kw : IntKind.i64.wrap ((k : Int) + 1) = (k : Int) + 1 := IntWalk.i64_in _ (by omega)
          obtain ⟨w3, hw3⟩ : ∃ w3, w3 = (w2.setCell ⟨Wo.heap.size, 0, none⟩ (.int .i64 ((k : Int) + 1))).drew := ⟨_, rfl⟩
          have HRI3 : Hid (RowI Wo.heap.size W1 (k + 1) w3) := by
            rw [hw3]
            exact ⟨World.cell?_setCell_same _ _ _ hn2, (World.frozen?_setCell _ _ _ _).trans hnf2, (HRI.out.2.2.setCell (Nat.le_refl _) _).drew⟩
          have HK3 : Hid (KeepsFrom W1.heap.size W w3) := by rw [hw3]; exact HK2.out.trans (keepsFrom_dn ((KeepsOthers.setCell _ _ _).from _) 1)
          have HB3 : Hid (Below Wo.heap.size W w3) := by rw [hw3]; exact (HB2.out.setCell (Nat.le_refl _) _).drew
          have hn3 : w3.cell? ⟨Wo.heap.size, 0, none⟩ = some (.int .i64 ((k : Int) + 1)) := HRI3.out.1
          have hr3 : w3.cell? ⟨Br, 0, none⟩ = some (.int .i64 r) := (HRI3.out.2.2.cell (p := ⟨Br, 0, none⟩) hBW).trans HR1.out.1
          have hm3 : w3.cell? ⟨N9, 0, none⟩ = some (.int .i64 most) := (HON.out.kept (HK1.out.trans (HRI3.out.2.2.mono (by omega)))).m0
          have HN3 := hide (And.intro hn3 (And.intro hr3 hm3))
          clear hn3 hr3 hm3
          gi_wp2
          gi_region
          all_goals
            clear hn2 hnf2 hrr hN9 kw
            rw [← hw3]
            clear hw3
            obtain ⟨hn3, hr3, hm3⟩ := HN3.out
            by_cases hrr1 : r = 1
            · have hb1 : ((r : Int) == 1) = true := by simp; omega
              by_cases hmk : (k : Int) + 1 = most
              · have hb2 : ((k : Int) + 1 == most) = true := by simp [hmk]
                have HMK := hide hmk
                have HRR := hide hrr1
                clear hmk hrr1
                gi_wp2
                exact ⟨HK3.out, rfl, HRR.out, by have := HPL.out; have := HMK.out; simp; omega, by have h9 := HRI3.out; have := HPL.out; simpa [this] using h9⟩
              · have hb2 : ((k : Int) + 1 == most) = false := by simp [hmk]
                gi_wp2
                exact ⟨HK3.out, HB3.out, by have h9 := HRI3.out; have := HPL.out; simpa [this] using h9⟩
            · have hb1 : ((r : Int) == 1) = false := by simp; omega
              gi_wp2
              exact ⟨HK3.out, HB3.out, by have h9 := HRI3.out; have := HPL.out; simpa [this] using h9⟩
    case done =>
      rintro D xs W hD hxs ⟨hc, hf, hb⟩ hDef
      have hxs : xs.length = d.toNat := hxs
      have hnd : W.cell? ⟨Wo.heap.size, 0, none⟩ = some (.int .i64 d) := by rw [hc, hxs, hdN]
      have HKW : Hid (Kept X W) := HK1.out.trans (hb.mono (by omega))
      have hr2 := (hb.cell (p := ⟨Br, 0, none⟩) hBW).trans HR1.out.1
      have hf2 := (hb.frozen (p := ⟨Br, 0, none⟩) hBW).trans HR1.out.2
      have HD2 : Hid (Defs X.heap.size W ({ target := .collected D, args := #[] } :: ds)) :=
        ⟨D, rfl, by omega, hDef, fun h => by have := HDS.out.lt h; omega, HDS.out.keeps fun k o h _ => by
          have hlt9 := (Array.getElem?_eq_some_iff.1 h).1
          exact (hb.block k hlt9).trans ((HK01.out.block k hlt9).trans h)⟩
      have hsW : X.heap.size ≤ W.heap.size := HKW.out.size
      obtain ⟨p0, p1, p2, q0, q1, q2, m0, r0, o0, o1, o2, k0, rf⟩ := HON.out.kept HKW.out
      have HA := hide (show Kept X (W.alloc (.cells #[.int .i64 ((r : Int) + 1)] 3)) ∧ (W.alloc (.cells #[.int .i64 ((r : Int) + 1)] 3)).cell? ⟨W.heap.size, 0, none⟩ = some (.int .i64 ((r + 1 : Nat) : Int)) ∧ (W.alloc (.cells #[.int .i64 ((r : Int) + 1)] 3)).frozen? ⟨W.heap.size, 0, none⟩ = false ∧
          Defs X.heap.size (W.alloc (.cells #[.int .i64 ((r : Int) + 1)] 3)) ({ target := .collected D, args := #[] } :: ds) from
        ⟨HKW.out.alloc HKW.out.size _, by simp, frozen_fresh _ _ _ _, HD2.out.keeps fun k o h _ => (((Below.refl W.heap.size W).alloc (Nat.le_refl _) _).block k (Array.getElem?_eq_some_iff.1 h).1).trans h⟩)
      clear hc hb hDef hxs
      go_wp2_with fail
      all_goals
        go_roundg gk
        case measure => omega
        case rel => exact ⟨(by omega : (r + 1) + gk = 3), HA.out.1, by omega, HA.out.2.1, HA.out.2.2.1, HA.out.2.2.2⟩
    case stop =>
      rintro D cc pre W hD _ ⟨rfl, hr9, hpm, hc, hf, hb⟩ hDef
      have HKW : Hid (Kept X W) := HK1.out.trans (hb.mono (by omega))
      have hr2 := (hb.cell (p := ⟨Br, 0, none⟩) hBW).trans HR1.out.1
      have hf2 := (hb.frozen (p := ⟨Br, 0, none⟩) hBW).trans HR1.out.2
      have HD2 : Hid (Defs X.heap.size W ({ target := .collected D, args := #[] } :: ds)) :=
        ⟨D, rfl, by omega, hDef, fun h => by have := HDS.out.lt h; omega, HDS.out.keeps fun k o h _ => by
          have hlt9 := (Array.getElem?_eq_some_iff.1 h).1
          exact (hb.block k hlt9).trans ((HK01.out.block k hlt9).trans h)⟩
      have hsW : X.heap.size ≤ W.heap.size := HKW.out.size
      obtain ⟨p0, p1, p2, q0, q1, q2, m0, r0, o0, o1, o2, k0, rf⟩ := HON.out.kept HKW.out
      have HA := hide (show Kept X (W.alloc (.cells #[.int .i64 ((r : Int) + 1)] 3)) ∧ (W.alloc (.cells #[.int .i64 ((r : Int) + 1)] 3)).cell? ⟨W.heap.size, 0, none⟩ = some (.int .i64 ((r + 1 : Nat) : Int)) ∧ (W.alloc (.cells #[.int .i64 ((r : Int) + 1)] 3)).frozen? ⟨W.heap.size, 0, none⟩ = false ∧
          Defs X.heap.size (W.alloc (.cells #[.int .i64 ((r : Int) + 1)] 3)) ({ target := .collected D, args := #[] } :: ds) from
        ⟨HKW.out.alloc HKW.out.size _, by simp, frozen_fresh _ _ _ _, HD2.out.keeps fun k o h _ => (((Below.refl W.heap.size W).alloc (Nat.le_refl _) _).block k (Array.getElem?_eq_some_iff.1 h).1).trans h⟩)
      rw [hpm] at hc
      have hrn : ((r : Int) != 1) = false := by simp; omega
      have HR9 := hide hr9
      clear hb hDef hpm hr9
      cases hmd : (most != d) with
      | true =>
        gi_wp2
        go_wp2_with fail
        all_goals
          go_roundg gk
          case measure => omega
          case rel => exact ⟨(by omega : (r + 1) + gk = 3), HA.out.1, by omega, HA.out.2.1, HA.out.2.2.1, HA.out.2.2.2⟩
      | false =>
        gi_wp2
        go_wp2_with fail
        all_goals
          go_roundg gk
          case measure => omega
          case rel => exact ⟨(by omega : (r + 1) + gk = 3), HA.out.1, by omega, HA.out.2.1, HA.out.2.2.1, HA.out.2.2.2⟩
end Go.Proofs.Ytbhgcbgaadnfpaa
