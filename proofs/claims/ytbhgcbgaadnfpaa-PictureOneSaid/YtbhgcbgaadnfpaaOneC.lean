/- The counting loop of the law PictureOne. -/
import Derived.Test.YtbhgcbgaadnfpaaOneR
import Derived.Test.YtbhgcbgaadnfpaaCnt
namespace Go.Proofs.Ytbhgcbgaadnfpaa
open Go.RowKit Go.Shelf

set_option maxRecDepth 100000 in
set_option maxHeartbeats 1600000 in
theorem cnt_loop {N5 N17 bA oA n c : Nat} {g : List UInt8} {L : Code} (hL : (loops (Try.f6.body.getD Code.skip)).getD 0 Code.skip = Code.loop L) {Q : Exit → Act → World → Prop} {Y : World} {u0 u1 u2 u3 u4 u6 u7 u8 u9 u10 u11 u12 u13 u14 u15 u16 u19 u20 u21 u22 u23 u24 u25 u26 u27 u28 u29 u30 u31 u32 u33 u34 u35 u36 u37 u38 u39 u40 u41 u42 u43 u44 u45 u46 u47 u48 u49 u50 u51 u52 u53 u54 u55 u56 u57 u58 u59 u60 u61 u62 u63 u64 u65 u66 u67 u68 u69 u70 u71 u72 u73 u74 u75 u76 u77 u78 u79 u80 u81 u82 u83 u84 u85 u86 u87 u88 u89 u90 u91 u92 u93 u94 u95 u96 u97 u98 u99 u100 u101 u102 u103 u104 u105 u106 u107 u108 u109 u110 u111 u112 u113 u114 u115 u116 u117 u118 u119 u120 u121 u122 u123 u124 u125 u126 u127 u128 u129 u130 u131 u148 u149 u150 u151 u152 u153 u154 u155 u156 u157 u158 u159 u160 u161 u162 u163 u164 u165 u166 u167 u168 u169 u170 u171 u172 u173 u174 u175 u176 u177 u178 u179 u180 u181 u182 u183 u184 u185 u186 u187 u188 u189 u190 u191 u192 u193 u194 u195 u196 u197 u198 u199 u200 u201 u202 u203 u204 u205 u206 u207 u208 u209 u210 u211 u212 u213 u214 u215 u216 u217 u218 u219 u220 u221 u222 u223 u224 u225 u226 u227 u228 u229 u230 u231 u232 u233 u234 u235 u236 u237 u238 u239 u240 u241 u242 u243 u244 u245 u246 u247 u248 u249 u250 u251 u252 u253 u254 u132 u133 u134 u135 u136 u137 u138 u139 u140 u141 u142 u143 u144 u145 u146 u147 : Value} (hl : g.length = n) (hn : n ≤ 4194304) (_ : n ≤ c)
    (hp : Y.cell? ⟨N5, 2, none⟩ = some (.slice (some ⟨bA, oA, none⟩) n c)) (h5 : N5 < N17) (hbA : bA < N17) (hr : Row Y (some ⟨bA, oA, none⟩) (bytesV g)) (hB : Y.heap[N17]? = some (.cells (cntV []) 51 (0, 0)))
    (hQ : ∀ (u18 u132 u133 u134 u135 u136 u137 u138 u139 u140 u141 u142 u143 u144 u145 u146 u147 : Value) (W' : World), Below N17 Y W' → W'.heap[N17]? = some (.cells (cntV g) 51 (0, 0)) → Q (.exit 1) { tmps := #[u0, u1, u2, u3, u4, .pointer (some ⟨N5, 0, none⟩), u6, u7, u8, u9, u10, u11, u12, u13, u14, u15, u16, .pointer (some ⟨N17, 0, none⟩), u18, u19, u20, u21, u22, u23, u24, u25, u26, u27, u28, u29, u30, u31, u32, u33, u34, u35, u36, u37, u38, u39, u40, u41, u42, u43, u44, u45, u46, u47, u48, u49, u50, u51, u52, u53, u54, u55, u56, u57, u58, u59, u60, u61, u62, u63, u64, u65, u66, u67, u68, u69, u70, u71, u72, u73, u74, u75, u76, u77, u78, u79, u80, u81, u82, u83, u84, u85, u86, u87, u88, u89, u90, u91, u92, u93, u94, u95, u96, u97, u98, u99, u100, u101, u102, u103, u104, u105, u106, u107, u108, u109, u110, u111, u112, u113, u114, u115, u116, u117, u118, u119, u120, u121, u122, u123, u124, u125, u126, u127, u128, u129, u130, u131, u132, u133, u134, u135, u136, u137, u138, u139, u140, u141, u142, u143, u144, u145, u146, u147, u148, u149, u150, u151, u152, u153, u154, u155, u156, u157, u158, u159, u160, u161, u162, u163, u164, u165, u166, u167, u168, u169, u170, u171, u172, u173, u174, u175, u176, u177, u178, u179, u180, u181, u182, u183, u184, u185, u186, u187, u188, u189, u190, u191, u192, u193, u194, u195, u196, u197, u198, u199, u200, u201, u202, u203, u204, u205, u206, u207, u208, u209, u210, u211, u212, u213, u214, u215, u216, u217, u218, u219, u220, u221, u222, u223, u224, u225, u226, u227, u228, u229, u230, u231, u232, u233, u234, u235, u236, u237, u238, u239, u240, u241, u242, u243, u244, u245, u246, u247, u248, u249, u250, u251, u252, u253, u254], defers := [] } W') :
    Code.wp Try.prog (.loop L) Q { tmps := #[u0, u1, u2, u3, u4, .pointer (some ⟨N5, 0, none⟩), u6, u7, u8, u9, u10, u11, u12, u13, u14, u15, u16, .pointer (some ⟨N17, 0, none⟩), .int .i64 0, u19, u20, u21, u22, u23, u24, u25, u26, u27, u28, u29, u30, u31, u32, u33, u34, u35, u36, u37, u38, u39, u40, u41, u42, u43, u44, u45, u46, u47, u48, u49, u50, u51, u52, u53, u54, u55, u56, u57, u58, u59, u60, u61, u62, u63, u64, u65, u66, u67, u68, u69, u70, u71, u72, u73, u74, u75, u76, u77, u78, u79, u80, u81, u82, u83, u84, u85, u86, u87, u88, u89, u90, u91, u92, u93, u94, u95, u96, u97, u98, u99, u100, u101, u102, u103, u104, u105, u106, u107, u108, u109, u110, u111, u112, u113, u114, u115, u116, u117, u118, u119, u120, u121, u122, u123, u124, u125, u126, u127, u128, u129, u130, u131, u132, u133, u134, u135, u136, u137, u138, u139, u140, u141, u142, u143, u144, u145, u146, u147, u148, u149, u150, u151, u152, u153, u154, u155, u156, u157, u158, u159, u160, u161, u162, u163, u164, u165, u166, u167, u168, u169, u170, u171, u172, u173, u174, u175, u176, u177, u178, u179, u180, u181, u182, u183, u184, u185, u186, u187, u188, u189, u190, u191, u192, u193, u194, u195, u196, u197, u198, u199, u200, u201, u202, u203, u204, u205, u206, u207, u208, u209, u210, u211, u212, u213, u214, u215, u216, u217, u218, u219, u220, u221, u222, u223, u224, u225, u226, u227, u228, u229, u230, u231, u232, u233, u234, u235, u236, u237, u238, u239, u240, u241, u242, u243, u244, u245, u246, u247, u248, u249, u250, u251, u252, u253, u254], defers := [] } Y := by
  conv at hL => lhs; whnf
  injection hL with hL
  subst hL
  refine wp_loop_ghost_k (fun gh act W => ∃ (k : Nat) (u132 u133 u134 u135 u136 u137 u138 u139 u140 u141 u142 u143 u144 u145 u146 u147 : Value), (k + gh = n ∧ W.heap[N17]? = some (.cells (cntV (g.take k)) 51 (0, 0)) ∧ Below N17 Y W) ∧ act = { tmps := #[u0, u1, u2, u3, u4, .pointer (some ⟨N5, 0, none⟩), u6, u7, u8, u9, u10, u11, u12, u13, u14, u15, u16, .pointer (some ⟨N17, 0, none⟩), .int .i64 (k : Nat), u19, u20, u21, u22, u23, u24, u25, u26, u27, u28, u29, u30, u31, u32, u33, u34, u35, u36, u37, u38, u39, u40, u41, u42, u43, u44, u45, u46, u47, u48, u49, u50, u51, u52, u53, u54, u55, u56, u57, u58, u59, u60, u61, u62, u63, u64, u65, u66, u67, u68, u69, u70, u71, u72, u73, u74, u75, u76, u77, u78, u79, u80, u81, u82, u83, u84, u85, u86, u87, u88, u89, u90, u91, u92, u93, u94, u95, u96, u97, u98, u99, u100, u101, u102, u103, u104, u105, u106, u107, u108, u109, u110, u111, u112, u113, u114, u115, u116, u117, u118, u119, u120, u121, u122, u123, u124, u125, u126, u127, u128, u129, u130, u131, u132, u133, u134, u135, u136, u137, u138, u139, u140, u141, u142, u143, u144, u145, u146, u147, u148, u149, u150, u151, u152, u153, u154, u155, u156, u157, u158, u159, u160, u161, u162, u163, u164, u165, u166, u167, u168, u169, u170, u171, u172, u173, u174, u175, u176, u177, u178, u179, u180, u181, u182, u183, u184, u185, u186, u187, u188, u189, u190, u191, u192, u193, u194, u195, u196, u197, u198, u199, u200, u201, u202, u203, u204, u205, u206, u207, u208, u209, u210, u211, u212, u213, u214, u215, u216, u217, u218, u219, u220, u221, u222, u223, u224, u225, u226, u227, u228, u229, u230, u231, u232, u233, u234, u235, u236, u237, u238, u239, u240, u241, u242, u243, u244, u245, u246, u247, u248, u249, u250, u251, u252, u253, u254], defers := [] }) n ⟨0, u132, u133, u134, u135, u136, u137, u138, u139, u140, u141, u142, u143, u144, u145, u146, u147, ⟨by omega, by simpa using hB, Below.refl _ _⟩, rfl⟩ ?_
  have HQ := hide hQ
  have HL := hide hl
  have HR := hide hr
  have HP := hide hp
  clear hQ hl hr hp hB u132 u133 u134 u135 u136 u137 u138 u139 u140 u141 u142 u143 u144 u145 u146 u147
  rintro gk act wr ⟨k, u132, u133, u134, u135, u136, u137, u138, u139, u140, u141, u142, u143, u144, u145, u146, u147, ⟨hkg, hBK, hkw⟩, rfl⟩ J K hJ hK
  have HBK := hide hBK
  have HKW := hide hkw
  have hp2 := (hkw.cell (p := ⟨N5, 2, none⟩) h5).trans HP.out
  clear hBK
  cases gk with
  | zero =>
    have hge : ¬ (k : Int) < (n : Int) := by omega
    have hgk : g.take k = g := List.take_of_length_le (by have := HL.out; omega)
    rw [hgk] at HBK
    clear hgk hkw
    go_wp2_with fail
    exact HQ.out _ _ _ _ _ _ _ _ _ _ _ _ _ _ _ _ _ _ HKW.out HBK.out
  | succ gk =>
    have hlt : (k : Int) < (n : Int) := by omega
    obtain ⟨x, hx⟩ : ∃ x, g[k]? = some x := ⟨_, List.getElem?_eq_getElem (by have := HL.out; omega)⟩
    have hcell : wr.cell? ⟨bA, oA + k, none⟩ = some (.int .u8 x.toNat) := by
      rcases HR.out with h1 | ⟨b', off', hA, hc⟩
      · have h9 : (bytesV g).length = 0 := by rw [h1]; rfl
        rw [bytesV_length] at h9; have := HL.out; omega
      · injection hA with hA; injection hA with e1 e2; subst e1; subst e2
        exact (hkw.cell (p := ⟨bA, oA + k, none⟩) hbA).trans (hc k _ (by simp [bytesV, hx]))
    have hx0 : (0 : Int) ≤ (x.toNat : Int) := by omega
    have hx1 : (x.toNat : Int) < 256 := by have := x.toNat_lt; omega
    obtain ⟨m, hm⟩ : ∃ m, m = cnt (g.take k) x.toNat := ⟨_, rfl⟩
    have hm1 : (m : Int) ≤ 4194304 := by have := cnt_le (g.take k) x.toNat; have := List.length_take_le k g; omega
    have hc2 : wr.cell? ⟨N17, x.toNat, none⟩ = some (.int .i64 m) := by
      rw [cell_of_row _ _ _ _ _ _ HBK.out, cntV_at _ _ (by omega), hm]
    have hf2 : wr.frozen? ⟨N17, x.toNat, none⟩ = false := frozen_of_row _ _ _ _ _ HBK.out
    have HB2 : Hid ((wr.setCell ⟨N17, x.toNat, none⟩ (.int .i64 ((m : Int) + 1))).heap[N17]? = some (.cells (cntV (g.take (k + 1))) 51 (0, 0))) := by
      show _ = _
      rw [heap_setCell_same _ _ _ _ _ _ HBK.out, hm, cntV_snoc, List.take_add_one, hx]
      rfl
    have HK2 : Hid (Below N17 Y (wr.setCell ⟨N17, x.toNat, none⟩ (.int .i64 ((m : Int) + 1)))) := HKW.out.setCell (Nat.le_refl _) _
    clear hm hx hkw
    go_wp2_with fail
    go_roundg gk
    case measure => omega
    case rel => exact ⟨(by omega : (k + 1) + gk = n), HB2.out, HK2.out⟩
end Go.Proofs.Ytbhgcbgaadnfpaa
