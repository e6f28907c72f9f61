/- Contracts and plain laws on the way to the statement: part 39. -/
import Derived.Test.YtggcbblikgankaaGreatDoorZ27
import Derived.Test.YtggcbblikgankaaGreatDoorZ34
import Derived.Test.YtggcbblikgankaaGreatDoorZ7
import Derived.Test.YtggcbblikgankaaGreatDoorZ5
import Derived.Deep.RegionHeld
import Derived.BigRegion
import Derived.BigQuiet
set_option linter.unusedVariables false
set_option linter.unusedSimpArgs false
section
namespace Go.Proofs.YtggcbblikgankaaGreatDoor
open Go Go.RowKit Go.Deep
structure Apart (T U V O B F D : Nat) : Prop where
 ntu : T ≠ U
 ntv : T ≠ V
 nto : T ≠ O
 ntb : T ≠ B
 ntf : T ≠ F
 ntd : T ≠ D
 nuv : U ≠ V
 nuo : U ≠ O
 nub : U ≠ B
 nuf : U ≠ F
 nud : U ≠ D
 nvo : V ≠ O
 nvb : V ≠ B
 nvf : V ≠ F
 nvd : V ≠ D
 nob : O ≠ B
 nof : O ≠ F
 nod : O ≠ D
 nbf : B ≠ F
 nbd : B ≠ D
 nfd : F ≠ D
structure SolW (w0 : World) (T U V O B F D : Nat) (to u v own near frm : List Int) (done : List Bool) (w : World) : Prop where
 below : Below w0.heap.size w0 w
 apart : Apart T U V O B F D
 lo : w0.heap.size ≤ T ∧ w0.heap.size ≤ U ∧ w0.heap.size ≤ V ∧ w0.heap.size ≤ O ∧ w0.heap.size ≤ B ∧ w0.heap.size ≤ F ∧ w0.heap.size ≤ D
 to : BI w T to
 u : BI w U u
 v : BI w V v
 own : BI w O own
 near : BI w B near
 frm : BI w F frm
 done : BB w D done
section
variable {w0 w : World} {T U V O B F D : Nat} {to u v own near frm : List Int} {done : List Bool}
theorem SolW.drewN (h : SolW w0 T U V O B F D to u v own near frm done w) (k : Nat) : SolW w0 T U V O B F D to u v own near frm done (w.drewN k) := ⟨below_drewN h.below k, h.apart, h.lo, h.to, h.u, h.v, h.own, h.near, h.frm, h.done⟩
theorem SolW.drew (h : SolW w0 T U V O B F D to u v own near frm done w) : SolW w0 T U V O B F D to u v own near frm done w.drew := ⟨h.below.drew, h.apart, h.lo, h.to, h.u, h.v, h.own, h.near, h.frm, h.done⟩
theorem SolW.set_u (h : SolW w0 T U V O B F D to u v own near frm done w) (j : Nat) (x : Int) : SolW w0 T U V O B F D to (u.set j x) v own near frm done (w.setCell ⟨U, j, none⟩ (.int .i64 x)) :=
 ⟨h.below.setCell (p := ⟨U, j, none⟩) h.lo.2.1 _, h.apart, h.lo, h.to.other (a := ⟨U, j, none⟩) h.apart.ntu, h.u.set j x, h.v.other (a := ⟨U, j, none⟩) (Ne.symm h.apart.nuv), h.own.other (a := ⟨U, j, none⟩) (Ne.symm h.apart.nuo), h.near.other (a := ⟨U, j, none⟩) (Ne.symm h.apart.nub), h.frm.other (a := ⟨U, j, none⟩) (Ne.symm h.apart.nuf), h.done.other (a := ⟨U, j, none⟩) (Ne.symm h.apart.nud)⟩
theorem SolW.set_v (h : SolW w0 T U V O B F D to u v own near frm done w) (j : Nat) (x : Int) : SolW w0 T U V O B F D to u (v.set j x) own near frm done (w.setCell ⟨V, j, none⟩ (.int .i64 x)) :=
 ⟨h.below.setCell (p := ⟨V, j, none⟩) h.lo.2.2.1 _, h.apart, h.lo, h.to.other (a := ⟨V, j, none⟩) h.apart.ntv, h.u.other (a := ⟨V, j, none⟩) h.apart.nuv, h.v.set j x, h.own.other (a := ⟨V, j, none⟩) (Ne.symm h.apart.nvo), h.near.other (a := ⟨V, j, none⟩) (Ne.symm h.apart.nvb), h.frm.other (a := ⟨V, j, none⟩) (Ne.symm h.apart.nvf), h.done.other (a := ⟨V, j, none⟩) (Ne.symm h.apart.nvd)⟩
theorem SolW.set_own (h : SolW w0 T U V O B F D to u v own near frm done w) (j : Nat) (x : Int) : SolW w0 T U V O B F D to u v (own.set j x) near frm done (w.setCell ⟨O, j, none⟩ (.int .i64 x)) :=
 ⟨h.below.setCell (p := ⟨O, j, none⟩) h.lo.2.2.2.1 _, h.apart, h.lo, h.to.other (a := ⟨O, j, none⟩) h.apart.nto, h.u.other (a := ⟨O, j, none⟩) h.apart.nuo, h.v.other (a := ⟨O, j, none⟩) h.apart.nvo, h.own.set j x, h.near.other (a := ⟨O, j, none⟩) (Ne.symm h.apart.nob), h.frm.other (a := ⟨O, j, none⟩) (Ne.symm h.apart.nof), h.done.other (a := ⟨O, j, none⟩) (Ne.symm h.apart.nod)⟩
theorem SolW.set_near (h : SolW w0 T U V O B F D to u v own near frm done w) (j : Nat) (x : Int) : SolW w0 T U V O B F D to u v own (near.set j x) frm done (w.setCell ⟨B, j, none⟩ (.int .i64 x)) :=
 ⟨h.below.setCell (p := ⟨B, j, none⟩) h.lo.2.2.2.2.1 _, h.apart, h.lo, h.to.other (a := ⟨B, j, none⟩) h.apart.ntb, h.u.other (a := ⟨B, j, none⟩) h.apart.nub, h.v.other (a := ⟨B, j, none⟩) h.apart.nvb, h.own.other (a := ⟨B, j, none⟩) h.apart.nob, h.near.set j x, h.frm.other (a := ⟨B, j, none⟩) (Ne.symm h.apart.nbf), h.done.other (a := ⟨B, j, none⟩) (Ne.symm h.apart.nbd)⟩
theorem SolW.set_frm (h : SolW w0 T U V O B F D to u v own near frm done w) (j : Nat) (x : Int) : SolW w0 T U V O B F D to u v own near (frm.set j x) done (w.setCell ⟨F, j, none⟩ (.int .i64 x)) :=
 ⟨h.below.setCell (p := ⟨F, j, none⟩) h.lo.2.2.2.2.2.1 _, h.apart, h.lo, h.to.other (a := ⟨F, j, none⟩) h.apart.ntf, h.u.other (a := ⟨F, j, none⟩) h.apart.nuf, h.v.other (a := ⟨F, j, none⟩) h.apart.nvf, h.own.other (a := ⟨F, j, none⟩) h.apart.nof, h.near.other (a := ⟨F, j, none⟩) h.apart.nbf, h.frm.set j x, h.done.other (a := ⟨F, j, none⟩) (Ne.symm h.apart.nfd)⟩
theorem SolW.set_done (h : SolW w0 T U V O B F D to u v own near frm done w) (j : Nat) (x : Bool) : SolW w0 T U V O B F D to u v own near frm (done.set j x) (w.setCell ⟨D, j, none⟩ (.bool x)) :=
 ⟨h.below.setCell (p := ⟨D, j, none⟩) h.lo.2.2.2.2.2.2 _, h.apart, h.lo, h.to.other (a := ⟨D, j, none⟩) h.apart.ntd, h.u.other (a := ⟨D, j, none⟩) h.apart.nud, h.v.other (a := ⟨D, j, none⟩) h.apart.nvd, h.own.other (a := ⟨D, j, none⟩) h.apart.nod, h.near.other (a := ⟨D, j, none⟩) h.apart.nbd, h.frm.other (a := ⟨D, j, none⟩) h.apart.nfd, h.done.set j x⟩
end
theorem far_cell {w : World} {g b r j : Nat} {v x : Value} (hg : ¬ g = b) (h : w.cell? ⟨g, r, none⟩ = some x) : (w.setCell ⟨b, j, none⟩ v).drew.cell? ⟨g, r, none⟩ = some x := by
 refine Eq.trans ?_ h
 show (w.setCell ⟨b, j, none⟩ v).cell? ⟨g, r, none⟩ = _
 unfold World.cell?
 rw [heap_setCell (w := w) (a := ⟨b, j, none⟩) (v := v) hg]
noncomputable def code65 : Code := (Tryz.f46.body).getD .skip
noncomputable def part65n3 : Code := fstC (lastPart 3 code65)
noncomputable def part65n4 : Code := lastPart 4 code65
def scpC : Code → Code | .scope c => c | c => c
noncomputable def loopR : Code := lopC (blkC (sndC part65n3))
noncomputable def bodyR : Code := blkC (fstC (sndC (sndC loopR)))
end Go.Proofs.YtggcbblikgankaaGreatDoor
end
section
namespace Go.Proofs.YtggcbblikgankaaGreatDoor
open Go Go.RowKit Go.Deep
noncomputable def scR : Code := scpC (sndC bodyR)
noncomputable def srcR : Code := lopC (blkC (fstC (sndC (sndC (sndC scR)))))
noncomputable def bodyS : Code := blkC srcR
noncomputable def scanS : Code := fstC (sndC bodyS)
noncomputable def loopS : Code := lopC (blkC (sndC scanS))
noncomputable def body5 : Code := blkC (fstC (sndC (sndC loopS)))
set_option maxRecDepth 100000 in
set_option maxHeartbeats 8000000 in
theorem scan_first (w0 : World) (T U V O B F D : Nat) (to u v own near frm : List Int) (done : List Bool) (bC oC ccC n m bR oR cR : Nat) (crow : List Int) (row j : Nat) (at0 : Int) (hrow : row < n) (hj : j < m) (hu : u.length = n) (hv : v.length = m) (hn : near.length = m) (hf : frm.length = m)
  (hcr : ∀ W, Below w0.heap.size w0 W → W.cell? ⟨bC, oC + row, none⟩ = some (.slice (some ⟨bR, oR, none⟩) m cR) ∧ W.cell? ⟨bR, oR + j, none⟩ = some (.int .i64 (gi crow j)))
  (w : World) (hM : SolW w0 T U V O B F D to u v own near frm done w) (e1 e2 e3 e4 e7 e8 e9 e12 e15 e16 e18 e19 e20 e21 e22 e23 e24 e25 e26 e27 e28 e29 e30 e31 e32 e33 e34 e35 e36 e37 e38 e39 e40 e41 e42 e43 e44 e45 e46 e47 e48 e49 e50 e51 e52 e53 e54 e55 e56 e57 e58 e59 e60 e61 e62 e63 e64 e65 e66 e67 e68 e69 e70 e71 e72 e73 e74 e75 e76 e77 e78 e79 e80 e81 e82 e83 e84 e85 e86 e87 e88 e89 e90 e91 e92 e93 e94 e95 e96 e97 e98 e99 e100 e101 e102 e103 e104 e105 e106 e107 e108 e109 e110 e111 e112 e113 e114 e115 e116 e117 e118 e119 e120 e121 e122 e123 e124 e125 e126 e127 e128 e129 e130 e131 e132 e133 e134 e135 e136 e137 e138 e139 e140 e141 e142 e143 e144 e145 e146 e147 e148 e149 e150 e151 e152 e153 e154 e155 e156 e157 e158 e159 e160 e161 e162 e163 e164 e165 e166 e167 e168 e169 e170 e171 e172 e173 e174 e175 e176 e177 e178 e179 e180 e181 e182 e183 e184 e185 e186 e187 e188 e189 e190 e191 e192 e193 e194 e195 e196 e197 e198 e199 e200 e201 e202 e203 e204 e205 e206 e207 e208 e209 e210 e211 : Value) (Q : Exit → Act → World → Prop) (X : Code)
  (hX1 : 0 ≤ gi crow j ∧ (wrap64 (wrap64 (gi crow j - gi u row) - gi v j)) < gi near j → ∀ (w' : World) (f55 f56 f57 f58 f59 f60 f61 f62 f63 f64 f65 f66 f67 f68 f69 f70 f71 f72 f73 f74 f75 f76 f77 f78 f79 f80 f81 f82 f83 f84 f85 f86 f87 f88 f89 f90 f91 f92 f93 f94 f95 f96 f97 f98 f99 f18 : Value), SolW w0 T U V O B F D to u v own (near.set j (wrap64 (wrap64 (gi crow j - gi u row) - gi v j))) (frm.set j at0) done w' → Code.wp Tryz.prog X Q { tmps := #[.slice (some ⟨bC, oC, none⟩) n ccC, e1, e2, e3, e4, .slice (some ⟨U, 0, none⟩) n n, .slice (some ⟨V, 0, none⟩) m m, e7, e8, e9, .slice (some ⟨B, 0, none⟩) m m, .slice (some ⟨F, 0, none⟩) m m, e12, .int .i64 at0, .int .i64 row, e15, e16, .int .i64 j, f18, e19, e20, e21, e22, e23, e24, e25, e26, e27, e28, e29, e30, e31, e32, e33, e34, e35, e36, e37, e38, e39, e40, e41, e42, e43, e44, e45, e46, e47, e48, e49, e50, e51, e52, e53, e54, f55, f56, f57, f58, f59, f60, f61, f62, f63, f64, f65, f66, f67, f68, f69, f70, f71, f72, f73, f74, f75, f76, f77, f78, f79, f80, f81, f82, f83, f84, f85, f86, f87, f88, f89, f90, f91, f92, f93, f94, f95, f96, f97, f98, f99, e100, e101, e102, e103, e104, e105, e106, e107, e108, e109, e110, e111, e112, e113, e114, e115, e116, e117, e118, e119, e120, e121, e122, e123, e124, e125, e126, e127, e128, e129, e130, e131, e132, e133, e134, e135, e136, e137, e138, e139, e140, e141, e142, e143, e144, e145, e146, e147, e148, e149, e150, e151, e152, e153, e154, e155, e156, e157, e158, e159, e160, e161, e162, e163, e164, e165, e166, e167, e168, e169, e170, e171, e172, e173, e174, e175, e176, e177, e178, e179, e180, e181, e182, e183, e184, e185, e186, e187, e188, e189, e190, e191, e192, e193, e194, e195, e196, e197, e198, e199, e200, e201, e202, e203, e204, e205, e206, e207, e208, e209, e210, e211], defers := [] } w')
  (hX0 : ¬ (0 ≤ gi crow j ∧ (wrap64 (wrap64 (gi crow j - gi u row) - gi v j)) < gi near j) → ∀ (w' : World) (f55 f56 f57 f58 f59 f60 f61 f62 f63 f64 f65 f66 f67 f68 f69 f70 f71 f72 f73 f74 f75 f76 f77 f78 f79 f80 f81 f82 f83 f84 f85 f86 f87 f88 f89 f90 f91 f92 f93 f94 f95 f96 f97 f98 f99 f18 : Value), SolW w0 T U V O B F D to u v own near frm done w' → Code.wp Tryz.prog X Q { tmps := #[.slice (some ⟨bC, oC, none⟩) n ccC, e1, e2, e3, e4, .slice (some ⟨U, 0, none⟩) n n, .slice (some ⟨V, 0, none⟩) m m, e7, e8, e9, .slice (some ⟨B, 0, none⟩) m m, .slice (some ⟨F, 0, none⟩) m m, e12, .int .i64 at0, .int .i64 row, e15, e16, .int .i64 j, f18, e19, e20, e21, e22, e23, e24, e25, e26, e27, e28, e29, e30, e31, e32, e33, e34, e35, e36, e37, e38, e39, e40, e41, e42, e43, e44, e45, e46, e47, e48, e49, e50, e51, e52, e53, e54, f55, f56, f57, f58, f59, f60, f61, f62, f63, f64, f65, f66, f67, f68, f69, f70, f71, f72, f73, f74, f75, f76, f77, f78, f79, f80, f81, f82, f83, f84, f85, f86, f87, f88, f89, f90, f91, f92, f93, f94, f95, f96, f97, f98, f99, e100, e101, e102, e103, e104, e105, e106, e107, e108, e109, e110, e111, e112, e113, e114, e115, e116, e117, e118, e119, e120, e121, e122, e123, e124, e125, e126, e127, e128, e129, e130, e131, e132, e133, e134, e135, e136, e137, e138, e139, e140, e141, e142, e143, e144, e145, e146, e147, e148, e149, e150, e151, e152, e153, e154, e155, e156, e157, e158, e159, e160, e161, e162, e163, e164, e165, e166, e167, e168, e169, e170, e171, e172, e173, e174, e175, e176, e177, e178, e179, e180, e181, e182, e183, e184, e185, e186, e187, e188, e189, e190, e191, e192, e193, e194, e195, e196, e197, e198, e199, e200, e201, e202, e203, e204, e205, e206, e207, e208, e209, e210, e211], defers := [] } w') :
  Code.wp Tryz.prog (.seq (fstC (sndC (sndC body5))) X) Q { tmps := #[.slice (some ⟨bC, oC, none⟩) n ccC, e1, e2, e3, e4, .slice (some ⟨U, 0, none⟩) n n, .slice (some ⟨V, 0, none⟩) m m, e7, e8, e9, .slice (some ⟨B, 0, none⟩) m m, .slice (some ⟨F, 0, none⟩) m m, e12, .int .i64 at0, .int .i64 row, e15, e16, .int .i64 j, e18, e19, e20, e21, e22, e23, e24, e25, e26, e27, e28, e29, e30, e31, e32, e33, e34, e35, e36, e37, e38, e39, e40, e41, e42, e43, e44, e45, e46, e47, e48, e49, e50, e51, e52, e53, e54, e55, e56, e57, e58, e59, e60, e61, e62, e63, e64, e65, e66, e67, e68, e69, e70, e71, e72, e73, e74, e75, e76, e77, e78, e79, e80, e81, e82, e83, e84, e85, e86, e87, e88, e89, e90, e91, e92, e93, e94, e95, e96, e97, e98, e99, e100, e101, e102, e103, e104, e105, e106, e107, e108, e109, e110, e111, e112, e113, e114, e115, e116, e117, e118, e119, e120, e121, e122, e123, e124, e125, e126, e127, e128, e129, e130, e131, e132, e133, e134, e135, e136, e137, e138, e139, e140, e141, e142, e143, e144, e145, e146, e147, e148, e149, e150, e151, e152, e153, e154, e155, e156, e157, e158, e159, e160, e161, e162, e163, e164, e165, e166, e167, e168, e169, e170, e171, e172, e173, e174, e175, e176, e177, e178, e179, e180, e181, e182, e183, e184, e185, e186, e187, e188, e189, e190, e191, e192, e193, e194, e195, e196, e197, e198, e199, e200, e201, e202, e203, e204, e205, e206, e207, e208, e209, e210, e211], defers := [] } w := by
 have HX1 := Lib.hid hX1; have HX0 := Lib.hid hX0; have HM := Lib.hid hM
 obtain ⟨c1, c2⟩ := hcr w hM.below
 have cu := hM.u.cell (j := row) (by omega)
 have cv := hM.v.cell (j := j) (by omega)
 have cn := hM.near.cell (j := j) (by omega)
 have hrow' : (row : Int) < (n : Int) := by omega
 have hj' : (j : Int) < (m : Int) := by omega
 have HJN := Lib.hid (show j < near.length by omega); have HJF := Lib.hid (show j < frm.length by omega)
 clear hX1 hX0 hM hcr hu hv hn hf
 generalize hc : gi crow j = c at *
 generalize hur : gi u row = ur at *
 generalize hvj : gi v j = vj at *
 generalize hnj : gi near j = nj at *
 clear hc hur hvj hnj
 unfold body5 loopS scanS bodyS srcR scR bodyR loopR part65n3 code65
 conv => arg 2; arg 1; whnf
 by_cases hc0 : 0 ≤ c
 ·have hd0 : decide (0 ≤ c) = true := decide_eq_true hc0
  by_cases hlt : wrap64 (wrap64 (c - ur) - vj) < nj
  ·have hd1 : decide (wrap64 (wrap64 (c - ur) - vj) < nj) = true := decide_eq_true hlt
   have HLT := Lib.hid hlt
   clear hlt
   go_wp2_with fail
   go_quiet (fail)
   go_wp2_with fail
   have hMd := HM.out.drewN nq
   have cf := hMd.frm.cell (j := j) HJF.out
   have fB := hMd.near.free j
   have fF := hMd.frm.free j
   have hBF : ¬ B = F := hMd.apart.nbf
   have cu' : (w.drewN nq).cell? ⟨U, row, none⟩ = some (.int .i64 ur) := cu
   have cv' : (w.drewN nq).cell? ⟨V, j, none⟩ = some (.int .i64 vj) := cv
   have cn' : (w.drewN nq).cell? ⟨B, j, none⟩ = some (.int .i64 nj) := cn
   clear cu cv cn
   have HMd := Lib.hid hMd
   clear hMd HM
   generalize w.drewN nq = W0 at *
   generalize gi frm j = fj at *
   have hUB : ¬ U = B := HMd.out.apart.nub
   have hVB : ¬ V = B := HMd.out.apart.nvb
   have hUF : ¬ U = F := HMd.out.apart.nuf
   have hVF : ¬ V = F := HMd.out.apart.nvf
   go_region_held3 (fun w2 => w2.cell? ⟨U, row, none⟩ = some (.int .i64 ur) ∧ w2.cell? ⟨V, j, none⟩ = some (.int .i64 vj)) (first | assumption | exact ⟨cu', cv'⟩ | exact ⟨far_cell hUB cu', far_cell hVB cv'⟩ | exact ⟨far_cell hUF (far_cell hUB cu'), far_cell hVF (far_cell hVB cv')⟩ | go_keep) (fail)
   go_wp2_with fail
   simp only [IntWalk.i64_left]
   exact HX1.out ⟨hc0, by have := HLT.out; omega⟩ _ _ _ _ _ _ _ _ _ _ _ _ _ _ _ _ _ _ _ _ _ _ _ _ _ _ _ _ _ _ _ _ _ _ _ _ _ _ _ _ _ _ _ _ _ _ _ ((HMd.out.set_near j _).set_frm j at0).drew
  ·have hd1 : decide (wrap64 (wrap64 (c - ur) - vj) < nj) = false := decide_eq_false hlt
   have HLT := Lib.hid hlt
   clear hlt
   go_wp2_with fail
   go_quiet (fail)
   go_wp2_with fail
   exact HX0.out (fun h => by have h1 := HLT.out; have h2 := h.2; omega) _ _ _ _ _ _ _ _ _ _ _ _ _ _ _ _ _ _ _ _ _ _ _ _ _ _ _ _ _ _ _ _ _ _ _ _ _ _ _ _ _ _ _ _ _ _ _ (HM.out.drewN _)
 ·have hd0 : decide (0 ≤ c) = false := decide_eq_false hc0
  go_wp2_with fail
  go_quiet (fail)
  go_wp2_with fail
  exact HX0.out (fun h => by have := h.1; omega) _ _ _ _ _ _ _ _ _ _ _ _ _ _ _ _ _ _ _ _ _ _ _ _ _ _ _ _ _ _ _ _ _ _ _ _ _ _ _ _ _ _ _ _ _ _ _ (HM.out.drewN _)
end Go.Proofs.YtggcbblikgankaaGreatDoor
end
section
namespace Go.Proofs.YtggcbblikgankaaGreatDoor
open Go Go.RowKit Go.Deep
noncomputable def rest5 : Code := sndC (sndC (sndC body5))
noncomputable def ar5 : Code := .seq (fstC (sndC (sndC body5))) rest5
set_option maxRecDepth 100000 in
set_option maxHeartbeats 8000000 in
theorem scan_second (B : Nat) (near : List Int) (m j : Nat) (step next : Int) (hj : j < m) (hn : near.length = m) (w : World) (hB : BI w B near) (e0 e1 e2 e3 e4 e5 e6 e7 e8 e9 e11 e12 e13 e14 e18 e19 e20 e21 e22 e23 e24 e25 e26 e27 e28 e29 e30 e31 e32 e33 e34 e35 e36 e37 e38 e39 e40 e41 e42 e43 e44 e45 e46 e47 e48 e49 e50 e51 e52 e53 e54 e55 e56 e57 e58 e59 e60 e61 e62 e63 e64 e65 e66 e67 e68 e69 e70 e71 e72 e73 e74 e75 e76 e77 e78 e79 e80 e81 e82 e83 e84 e85 e86 e87 e88 e89 e90 e91 e92 e93 e94 e95 e96 e97 e98 e99 e100 e101 e102 e103 e104 e105 e106 e107 e108 e109 e110 e111 e112 e113 e114 e115 e116 e117 e118 e119 e120 e121 e122 e123 e124 e125 e126 e127 e128 e129 e130 e131 e132 e133 e134 e135 e136 e137 e138 e139 e140 e141 e142 e143 e144 e145 e146 e147 e148 e149 e150 e151 e152 e153 e154 e155 e156 e157 e158 e159 e160 e161 e162 e163 e164 e165 e166 e167 e168 e169 e170 e171 e172 e173 e174 e175 e176 e177 e178 e179 e180 e181 e182 e183 e184 e185 e186 e187 e188 e189 e190 e191 e192 e193 e194 e195 e196 e197 e198 e199 e200 e201 e202 e203 e204 e205 e206 e207 e208 e209 e210 e211 : Value) (Q : Exit → Act → World → Prop)
  (hXy : gi near j < step → ∀ (f100 f101 f102 f103 f104 f105 f106 f107 f108 f109 f110 : Value), Q .normal { tmps := #[e0, e1, e2, e3, e4, e5, e6, e7, e8, e9, .slice (some ⟨B, 0, none⟩) m m, e11, e12, e13, e14, .int .i64 (gi near j), .int .i64 j, .int .i64 j, e18, e19, e20, e21, e22, e23, e24, e25, e26, e27, e28, e29, e30, e31, e32, e33, e34, e35, e36, e37, e38, e39, e40, e41, e42, e43, e44, e45, e46, e47, e48, e49, e50, e51, e52, e53, e54, e55, e56, e57, e58, e59, e60, e61, e62, e63, e64, e65, e66, e67, e68, e69, e70, e71, e72, e73, e74, e75, e76, e77, e78, e79, e80, e81, e82, e83, e84, e85, e86, e87, e88, e89, e90, e91, e92, e93, e94, e95, e96, e97, e98, e99, f100, f101, f102, f103, f104, f105, f106, f107, f108, f109, f110, e111, e112, e113, e114, e115, e116, e117, e118, e119, e120, e121, e122, e123, e124, e125, e126, e127, e128, e129, e130, e131, e132, e133, e134, e135, e136, e137, e138, e139, e140, e141, e142, e143, e144, e145, e146, e147, e148, e149, e150, e151, e152, e153, e154, e155, e156, e157, e158, e159, e160, e161, e162, e163, e164, e165, e166, e167, e168, e169, e170, e171, e172, e173, e174, e175, e176, e177, e178, e179, e180, e181, e182, e183, e184, e185, e186, e187, e188, e189, e190, e191, e192, e193, e194, e195, e196, e197, e198, e199, e200, e201, e202, e203, e204, e205, e206, e207, e208, e209, e210, e211], defers := [] } w)
  (hXn : ¬ gi near j < step → ∀ (f100 f101 f102 f103 f104 f105 f106 f107 f108 f109 f110 : Value), Q .normal { tmps := #[e0, e1, e2, e3, e4, e5, e6, e7, e8, e9, .slice (some ⟨B, 0, none⟩) m m, e11, e12, e13, e14, .int .i64 step, .int .i64 next, .int .i64 j, e18, e19, e20, e21, e22, e23, e24, e25, e26, e27, e28, e29, e30, e31, e32, e33, e34, e35, e36, e37, e38, e39, e40, e41, e42, e43, e44, e45, e46, e47, e48, e49, e50, e51, e52, e53, e54, e55, e56, e57, e58, e59, e60, e61, e62, e63, e64, e65, e66, e67, e68, e69, e70, e71, e72, e73, e74, e75, e76, e77, e78, e79, e80, e81, e82, e83, e84, e85, e86, e87, e88, e89, e90, e91, e92, e93, e94, e95, e96, e97, e98, e99, f100, f101, f102, f103, f104, f105, f106, f107, f108, f109, f110, e111, e112, e113, e114, e115, e116, e117, e118, e119, e120, e121, e122, e123, e124, e125, e126, e127, e128, e129, e130, e131, e132, e133, e134, e135, e136, e137, e138, e139, e140, e141, e142, e143, e144, e145, e146, e147, e148, e149, e150, e151, e152, e153, e154, e155, e156, e157, e158, e159, e160, e161, e162, e163, e164, e165, e166, e167, e168, e169, e170, e171, e172, e173, e174, e175, e176, e177, e178, e179, e180, e181, e182, e183, e184, e185, e186, e187, e188, e189, e190, e191, e192, e193, e194, e195, e196, e197, e198, e199, e200, e201, e202, e203, e204, e205, e206, e207, e208, e209, e210, e211], defers := [] } w) :
  Code.wp Tryz.prog rest5 Q { tmps := #[e0, e1, e2, e3, e4, e5, e6, e7, e8, e9, .slice (some ⟨B, 0, none⟩) m m, e11, e12, e13, e14, .int .i64 step, .int .i64 next, .int .i64 j, e18, e19, e20, e21, e22, e23, e24, e25, e26, e27, e28, e29, e30, e31, e32, e33, e34, e35, e36, e37, e38, e39, e40, e41, e42, e43, e44, e45, e46, e47, e48, e49, e50, e51, e52, e53, e54, e55, e56, e57, e58, e59, e60, e61, e62, e63, e64, e65, e66, e67, e68, e69, e70, e71, e72, e73, e74, e75, e76, e77, e78, e79, e80, e81, e82, e83, e84, e85, e86, e87, e88, e89, e90, e91, e92, e93, e94, e95, e96, e97, e98, e99, e100, e101, e102, e103, e104, e105, e106, e107, e108, e109, e110, e111, e112, e113, e114, e115, e116, e117, e118, e119, e120, e121, e122, e123, e124, e125, e126, e127, e128, e129, e130, e131, e132, e133, e134, e135, e136, e137, e138, e139, e140, e141, e142, e143, e144, e145, e146, e147, e148, e149, e150, e151, e152, e153, e154, e155, e156, e157, e158, e159, e160, e161, e162, e163, e164, e165, e166, e167, e168, e169, e170, e171, e172, e173, e174, e175, e176, e177, e178, e179, e180, e181, e182, e183, e184, e185, e186, e187, e188, e189, e190, e191, e192, e193, e194, e195, e196, e197, e198, e199, e200, e201, e202, e203, e204, e205, e206, e207, e208, e209, e210, e211], defers := [] } w := by
 have HXY := Lib.hid hXy; have HXN := Lib.hid hXn
 have cn := hB.cell (j := j) (by omega)
 have hj' : (j : Int) < (m : Int) := by omega
 clear hXy hXn hB hn
 generalize hnj : gi near j = nj at *
 clear hnj
 unfold rest5 body5 loopS scanS bodyS srcR scR bodyR loopR part65n3 code65
 conv => arg 2; whnf
 by_cases hlt : nj < step
 ·have hd : decide (nj < step) = true := decide_eq_true hlt
  go_wp2_with fail
  exact HXY.out hlt _ _ _ _ _ _ _ _ _ _ _
 ·have hd : decide (nj < step) = false := decide_eq_false hlt
  go_wp2_with fail
  exact HXN.out hlt _ _ _ _ _ _ _ _ _ _ _
set_option maxRecDepth 100000 in
set_option maxHeartbeats 8000000 in
theorem scan_loop (w0 : World) (T U V O B F D : Nat) (to u v own near frm : List Int) (done : List Bool) (bC oC ccC n m bR oR cR : Nat) (crow : List Int) (row : Nat) (at0 : Int) (hrow : row < n) (hu : u.length = n) (hv : v.length = m) (hn : near.length = m) (hf : frm.length = m) (hdl : done.length = m)
  (hm0 : m ≤ 1000) (hcr : ∀ j, j < m → ∀ W, Below w0.heap.size w0 W → W.cell? ⟨bC, oC + row, none⟩ = some (.slice (some ⟨bR, oR, none⟩) m cR) ∧ W.cell? ⟨bR, oR + j, none⟩ = some (.int .i64 (gi crow j)))
  (w : World) (hM : SolW w0 T U V O B F D to u v own near frm done w) (e2 e3 e4 e7 e8 e9 e17 e18 e19 e20 e21 e22 e23 e24 e25 e26 e27 e28 e29 e30 e31 e32 e33 e34 e35 e36 e37 e38 e39 e40 e41 e42 e43 e44 e45 e46 e47 e48 e49 e50 e51 e52 e53 e54 e55 e56 e57 e58 e59 e60 e61 e62 e63 e64 e65 e66 e67 e68 e69 e70 e71 e72 e73 e74 e75 e76 e77 e78 e79 e80 e81 e82 e83 e84 e85 e86 e87 e88 e89 e90 e91 e92 e93 e94 e95 e96 e97 e98 e99 e100 e101 e102 e103 e104 e105 e106 e107 e108 e109 e110 e111 e112 e113 e114 e115 e116 e117 e118 e119 e120 e121 e122 e123 e124 e125 e126 e127 e128 e129 e130 e131 e132 e133 e134 e135 e136 e137 e138 e139 e140 e141 e142 e143 e144 e145 e146 e147 e148 e149 e150 e151 e152 e153 e154 e155 e156 e157 e158 e159 e160 e161 e162 e163 e164 e165 e166 e167 e168 e169 e170 e171 e172 e173 e174 e175 e176 e177 e178 e179 e180 e181 e182 e183 e184 e185 e186 e187 e188 e189 e190 e191 e192 e193 e194 e195 e196 e197 e198 e199 e200 e201 e202 e203 e204 e205 e206 e207 e208 e209 e210 e211 : Value) (Q : Exit → Act → World → Prop) (X : Code)
  (hX : ∀ (w' : World) (f47 f48 f49 f50 f51 f52 f53 f54 f55 f56 f57 f58 f59 f60 f61 f62 f63 f64 f65 f66 f67 f68 f69 f70 f71 f72 f73 f74 f75 f76 f77 f78 f79 f80 f81 f82 f83 f84 f85 f86 f87 f88 f89 f90 f91 f92 f93 f94 f95 f96 f97 f98 f99 f100 f101 f102 f103 f104 f105 f106 f107 f108 f109 f110 f111 f17 f18 : Value), SolW w0 T U V O B F D to u v own (scanK crow v done (gi u row) at0 near frm m).near (scanK crow v done (gi u row) at0 near frm m).frm done w' → Code.wp Tryz.prog X Q { tmps := #[.slice (some ⟨bC, oC, none⟩) n ccC, .int .i64 m, e2, e3, e4, .slice (some ⟨U, 0, none⟩) n n, .slice (some ⟨V, 0, none⟩) m m, e7, e8, e9, .slice (some ⟨B, 0, none⟩) m m, .slice (some ⟨F, 0, none⟩) m m, .slice (some ⟨D, 0, none⟩) m m, .int .i64 at0, .int .i64 row, .int .i64 (scanK crow v done (gi u row) at0 near frm m).step, .int .i64 (scanK crow v done (gi u row) at0 near frm m).next, f17, f18, e19, e20, e21, e22, e23, e24, e25, e26, e27, e28, e29, e30, e31, e32, e33, e34, e35, e36, e37, e38, e39, e40, e41, e42, e43, e44, e45, e46, f47, f48, f49, f50, f51, f52, f53, f54, f55, f56, f57, f58, f59, f60, f61, f62, f63, f64, f65, f66, f67, f68, f69, f70, f71, f72, f73, f74, f75, f76, f77, f78, f79, f80, f81, f82, f83, f84, f85, f86, f87, f88, f89, f90, f91, f92, f93, f94, f95, f96, f97, f98, f99, f100, f101, f102, f103, f104, f105, f106, f107, f108, f109, f110, f111, e112, e113, e114, e115, e116, e117, e118, e119, e120, e121, e122, e123, e124, e125, e126, e127, e128, e129, e130, e131, e132, e133, e134, e135, e136, e137, e138, e139, e140, e141, e142, e143, e144, e145, e146, e147, e148, e149, e150, e151, e152, e153, e154, e155, e156, e157, e158, e159, e160, e161, e162, e163, e164, e165, e166, e167, e168, e169, e170, e171, e172, e173, e174, e175, e176, e177, e178, e179, e180, e181, e182, e183, e184, e185, e186, e187, e188, e189, e190, e191, e192, e193, e194, e195, e196, e197, e198, e199, e200, e201, e202, e203, e204, e205, e206, e207, e208, e209, e210, e211], defers := [] } w') :
  Code.wp Tryz.prog (.seq scanS X) Q { tmps := #[.slice (some ⟨bC, oC, none⟩) n ccC, .int .i64 m, e2, e3, e4, .slice (some ⟨U, 0, none⟩) n n, .slice (some ⟨V, 0, none⟩) m m, e7, e8, e9, .slice (some ⟨B, 0, none⟩) m m, .slice (some ⟨F, 0, none⟩) m m, .slice (some ⟨D, 0, none⟩) m m, .int .i64 at0, .int .i64 row, .int .i64 neverI, .int .i64 (-1), e17, e18, e19, e20, e21, e22, e23, e24, e25, e26, e27, e28, e29, e30, e31, e32, e33, e34, e35, e36, e37, e38, e39, e40, e41, e42, e43, e44, e45, e46, e47, e48, e49, e50, e51, e52, e53, e54, e55, e56, e57, e58, e59, e60, e61, e62, e63, e64, e65, e66, e67, e68, e69, e70, e71, e72, e73, e74, e75, e76, e77, e78, e79, e80, e81, e82, e83, e84, e85, e86, e87, e88, e89, e90, e91, e92, e93, e94, e95, e96, e97, e98, e99, e100, e101, e102, e103, e104, e105, e106, e107, e108, e109, e110, e111, e112, e113, e114, e115, e116, e117, e118, e119, e120, e121, e122, e123, e124, e125, e126, e127, e128, e129, e130, e131, e132, e133, e134, e135, e136, e137, e138, e139, e140, e141, e142, e143, e144, e145, e146, e147, e148, e149, e150, e151, e152, e153, e154, e155, e156, e157, e158, e159, e160, e161, e162, e163, e164, e165, e166, e167, e168, e169, e170, e171, e172, e173, e174, e175, e176, e177, e178, e179, e180, e181, e182, e183, e184, e185, e186, e187, e188, e189, e190, e191, e192, e193, e194, e195, e196, e197, e198, e199, e200, e201, e202, e203, e204, e205, e206, e207, e208, e209, e210, e211], defers := [] } w := by
 have HX := Lib.hid hX; have HM := Lib.hid hM; have HCR := Lib.hid hcr
 have HU := Lib.hid hu; have HV := Lib.hid hv; have HDL := Lib.hid hdl
 have hsc := fun k hk => scan_ok crow v done (gi u row) at0 near frm m hn hf k hk
 have HSC := Lib.hid hsc
 clear hX hM hcr hu hv hdl hn hf hsc
 unfold scanS bodyS srcR scR bodyR loopR part65n3 code65
 conv => arg 2; arg 1; whnf
 go_wp2_with fail
 go_loopw [15, 16, 48] (fun sv nv iv wr => ∃ j : Nat, j ≤ m ∧ iv = .int .i64 j ∧ sv = .int .i64 (scanK crow v done (gi u row) at0 near frm j).step ∧ nv = .int .i64 (scanK crow v done (gi u row) at0 near frm j).next ∧ Hid (SolW w0 T U V O B F D to u v own (scanK crow v done (gi u row) at0 near frm j).near (scanK crow v done (gi u row) at0 near frm j).frm done wr)) (fun _ _ iv _ => m - (intOf iv).toNat)
 case atStart => exact ⟨0, Nat.zero_le _, rfl, rfl, rfl, HM⟩
 case round =>
  clear HM
  obtain ⟨j, hjm, rfl, rfl, rfl, hM⟩ := hrel
  by_cases hj : j < m
  ·have hj' : (j : Int) < (m : Int) := by omega
   obtain ⟨l1, l2, _, _, _⟩ := HSC.out j hjm
   have hstep := scanK_succ crow v done (gi u row) at0 near frm j
   have cd := hM.out.done.cell (j := j) (by rw [HDL.out]; exact hj)
   have HST := Lib.hid hstep; have HL1 := Lib.hid l1; have HL2 := Lib.hid l2
   clear hstep l1 l2
   generalize scanK crow v done (gi u row) at0 near frm j = a at *
   change Code.wp Tryz.prog (.seq (fstC loopS) (.seq (fstC (sndC loopS)) (.seq (.block 5 (.seq (fstC body5) (.seq (fstC (sndC body5)) ar5))) (sndC (sndC (sndC loopS)))))) _ _ _
   go_wp2_with fail
   conv => arg 2; whnf
   go_wp2_with fail
   conv => arg 2; whnf
   go_wp2_with fail
   conv => arg 2; whnf
   go_wp2_with fail
   conv => arg 2; whnf
   cases hdj : gb done j with
   | true =>
    rw [hdj] at cd
    have he : scanK crow v done (gi u row) at0 near frm (j + 1) = a := by rw [HST.out]; unfold scan1; rw [if_pos hdj]
    clear hdj
    have HEE := Lib.hid he
    clear he
    go_wp2_with fail
    conv => arg 2; whnf
    go_wp2_with fail
    go_roundw
    case rel => exact ⟨j + 1, by omega, by go_num, by rw [HEE.out], by rw [HEE.out], by rw [HEE.out]; exact hM⟩
    case measure => simp [intOf]; omega
   | false =>
    rw [hdj] at cd
    have HDJ := Lib.hid hdj
    clear hdj
    go_wp2_with fail
    unfold ar5
    refine scan_first w0 T U V O B F D to u v own a.near a.frm done bC oC ccC n m bR oR cR crow row j at0 hrow hj HU.out HV.out HL1.out HL2.out (HCR.out j hj) wr hM.out  _ _ _ _ _ _ _ _ _ _ _ _ _ _ _ _ _ _ _ _ _ _ _ _ _ _ _ _ _ _ _ _ _ _ _ _ _ _ _ _ _ _ _ _ _ _ _ _ _ _ _ _ _ _ _ _ _ _ _ _ _ _ _ _ _ _ _ _ _ _ _ _ _ _ _ _ _ _ _ _ _ _ _ _ _ _ _ _ _ _ _ _ _ _ _ _ _ _ _ _ _ _ _ _ _ _ _ _ _ _ _ _ _ _ _ _ _ _ _ _ _ _ _ _ _ _ _ _ _ _ _ _ _ _ _ _ _ _ _ _ _ _ _ _ _ _ _ _ _ _ _ _ _ _ _ _ _ _ _ _ _ _ _ _ _ _ _ _ _ _ _ _ _ _ _ _ _ _ _ _ _ _ _ _ _ _ _ _ _ _ _ _ _ _ _ _ _ _ _ _ _ _ _ _ _ _ ?_ ?_
    ·intro hq w1 _ _ _ _ _ _ _ _ _ _ _ _ _ _ _ _ _ _ _ _ _ _ _ _ _ _ _ _ _ _ _ _ _ _ _ _ _ _ _ _ _ _ _ _ _ _ hM1
     have HQ := Lib.hid hq; have HM1 := Lib.hid hM1
     clear hq hM1
     refine scan_second B (a.near.set j (wrap64 (wrap64 (gi crow j - gi u row) - gi v j))) m j a.step a.next hj (by simp [HL1.out]) w1 HM1.out.near _ _ _ _ _ _ _ _ _ _ _ _ _ _ _ _ _ _ _ _ _ _ _ _ _ _ _ _ _ _ _ _ _ _ _ _ _ _ _ _ _ _ _ _ _ _ _ _ _ _ _ _ _ _ _ _ _ _ _ _ _ _ _ _ _ _ _ _ _ _ _ _ _ _ _ _ _ _ _ _ _ _ _ _ _ _ _ _ _ _ _ _ _ _ _ _ _ _ _ _ _ _ _ _ _ _ _ _ _ _ _ _ _ _ _ _ _ _ _ _ _ _ _ _ _ _ _ _ _ _ _ _ _ _ _ _ _ _ _ _ _ _ _ _ _ _ _ _ _ _ _ _ _ _ _ _ _ _ _ _ _ _ _ _ _ _ _ _ _ _ _ _ _ _ _ _ _ _ _ _ _ _ _ _ _ _ _ _ _ _ _ _ _ _ _ _ _ _ _ _ _ _ _ _ _ _ _ _ _ ?_ ?_
     ·intro hl _ _ _ _ _ _ _ _ _ _ _
      have HL := Lib.hid hl
      have he : scanK crow v done (gi u row) at0 near frm (j + 1) = ⟨(a.near.set j (wrap64 (wrap64 (gi crow j - gi u row) - gi v j))), (a.frm.set j at0), gi (a.near.set j (wrap64 (wrap64 (gi crow j - gi u row) - gi v j))) j, j⟩ := by
       rw [HST.out]; unfold scan1
       rw [if_neg (by rw [HDJ.out]; decide)]
       simp only
       rw [if_pos HQ.out, if_pos HL.out]
      clear hl
      go_wp2_with fail
      conv => arg 2; whnf
      go_wp2_with fail
      go_roundw
      case rel => exact ⟨j + 1, by omega, by go_num, by rw [he], by rw [he], by rw [he]; exact HM1⟩
      case measure => simp [intOf]; omega
     ·intro hl _ _ _ _ _ _ _ _ _ _ _
      have HL := Lib.hid hl
      have he : scanK crow v done (gi u row) at0 near frm (j + 1) = ⟨(a.near.set j (wrap64 (wrap64 (gi crow j - gi u row) - gi v j))), (a.frm.set j at0), a.step, a.next⟩ := by
       rw [HST.out]; unfold scan1
       rw [if_neg (by rw [HDJ.out]; decide)]
       simp only
       rw [if_pos HQ.out, if_neg HL.out]
      clear hl
      go_wp2_with fail
      conv => arg 2; whnf
      go_wp2_with fail
      go_roundw
      case rel => exact ⟨j + 1, by omega, by go_num, by rw [he], by rw [he], by rw [he]; exact HM1⟩
      case measure => simp [intOf]; omega
    ·intro hq w1 _ _ _ _ _ _ _ _ _ _ _ _ _ _ _ _ _ _ _ _ _ _ _ _ _ _ _ _ _ _ _ _ _ _ _ _ _ _ _ _ _ _ _ _ _ _ hM1
     have HQ := Lib.hid hq; have HM1 := Lib.hid hM1
     clear hq hM1
     refine scan_second B a.near m j a.step a.next hj HL1.out w1 HM1.out.near _ _ _ _ _ _ _ _ _ _ _ _ _ _ _ _ _ _ _ _ _ _ _ _ _ _ _ _ _ _ _ _ _ _ _ _ _ _ _ _ _ _ _ _ _ _ _ _ _ _ _ _ _ _ _ _ _ _ _ _ _ _ _ _ _ _ _ _ _ _ _ _ _ _ _ _ _ _ _ _ _ _ _ _ _ _ _ _ _ _ _ _ _ _ _ _ _ _ _ _ _ _ _ _ _ _ _ _ _ _ _ _ _ _ _ _ _ _ _ _ _ _ _ _ _ _ _ _ _ _ _ _ _ _ _ _ _ _ _ _ _ _ _ _ _ _ _ _ _ _ _ _ _ _ _ _ _ _ _ _ _ _ _ _ _ _ _ _ _ _ _ _ _ _ _ _ _ _ _ _ _ _ _ _ _ _ _ _ _ _ _ _ _ _ _ _ _ _ _ _ _ _ _ _ _ _ _ _ _ ?_ ?_
     ·intro hl _ _ _ _ _ _ _ _ _ _ _
      have HL := Lib.hid hl
      have he : scanK crow v done (gi u row) at0 near frm (j + 1) = ⟨a.near, a.frm, gi a.near j, j⟩ := by
       rw [HST.out]; unfold scan1
       rw [if_neg (by rw [HDJ.out]; decide)]
       simp only
       rw [if_neg HQ.out, if_pos HL.out]
      clear hl
      go_wp2_with fail
      conv => arg 2; whnf
      go_wp2_with fail
      go_roundw
      case rel => exact ⟨j + 1, by omega, by go_num, by rw [he], by rw [he], by rw [he]; exact HM1⟩
      case measure => simp [intOf]; omega
     ·intro hl _ _ _ _ _ _ _ _ _ _ _
      have HL := Lib.hid hl
      have he : scanK crow v done (gi u row) at0 near frm (j + 1) = ⟨a.near, a.frm, a.step, a.next⟩ := by
       rw [HST.out]; unfold scan1
       rw [if_neg (by rw [HDJ.out]; decide)]
       simp only
       rw [if_neg HQ.out, if_neg HL.out]
      clear hl
      go_wp2_with fail
      conv => arg 2; whnf
      go_wp2_with fail
      go_roundw
      case rel => exact ⟨j + 1, by omega, by go_num, by rw [he], by rw [he], by rw [he]; exact HM1⟩
      case measure => simp [intOf]; omega
  ·obtain rfl : j = m := by omega
   have hj' : ¬ (j : Int) < (j : Int) := by omega
   go_wp2_with fail
   exact HX.out _ _ _ _ _ _ _ _ _ _ _ _ _ _ _ _ _ _ _ _ _ _ _ _ _ _ _ _ _ _ _ _ _ _ _ _ _ _ _ _ _ _ _ _ _ _ _ _ _ _ _ _ _ _ _ _ _ _ _ _ _ _ _ _ _ _ _ _ hM.out
end Go.Proofs.YtggcbblikgankaaGreatDoor
end
section
namespace Go.Proofs.YtggcbblikgankaaGreatDoor
open Go Go.RowKit Go.Deep
noncomputable def shiftS : Code := fstC (sndC (sndC (sndC (sndC bodyS))))
theorem shift_len (own : List Int) (done : List Bool) (step : Int) (s : ShiftS) : ∀ k, (shiftK own done step s k).u.length = s.u.length ∧ (shiftK own done step s k).v.length = s.v.length ∧ (shiftK own done step s k).near.length = s.near.length
 | 0 => ⟨rfl, rfl, rfl⟩
 | k + 1 => by
  obtain ⟨h1, h2, h3⟩ := shift_len own done step s k
  rw [shiftK_succ]
  unfold shift1
  split
  ·exact ⟨by simp [h1], by simp [h2], h3⟩
  ·split
   ·exact ⟨h1, h2, by simp [h3]⟩
   ·exact ⟨h1, h2, h3⟩
set_option maxRecDepth 100000 in
set_option maxHeartbeats 8000000 in
theorem shift_loop (w0 : World) (T U V O B F D : Nat) (to u v own near frm : List Int) (done : List Bool) (n m : Nat) (step : Int) (hu : u.length = n) (hv : v.length = m) (hn : near.length = m) (hol : own.length = m) (hdl : done.length = m)
  (hm0 : m ≤ 1000) (hown : ∀ j, j < m → gb done j = true → 0 ≤ gi own j ∧ gi own j < n)
  (w : World) (hM : SolW w0 T U V O B F D to u v own near frm done w) (e0 e2 e3 e4 e7 e9 e11 e13 e14 e16 e17 e18 e19 e20 e21 e22 e23 e24 e25 e26 e27 e28 e29 e30 e31 e32 e33 e34 e35 e36 e37 e38 e39 e40 e41 e42 e43 e44 e45 e46 e47 e48 e49 e50 e51 e52 e53 e54 e55 e56 e57 e58 e59 e60 e61 e62 e63 e64 e65 e66 e67 e68 e69 e70 e71 e72 e73 e74 e75 e76 e77 e78 e79 e80 e81 e82 e83 e84 e85 e86 e87 e88 e89 e90 e91 e92 e93 e94 e95 e96 e97 e98 e99 e100 e101 e102 e103 e104 e105 e106 e107 e108 e109 e110 e111 e112 e113 e114 e115 e116 e117 e118 e119 e120 e121 e122 e123 e124 e125 e126 e127 e128 e129 e130 e131 e132 e133 e134 e135 e136 e137 e138 e139 e140 e141 e142 e143 e144 e145 e146 e147 e148 e149 e150 e151 e152 e153 e154 e155 e156 e157 e158 e159 e160 e161 e162 e163 e164 e165 e166 e167 e168 e169 e170 e171 e172 e173 e174 e175 e176 e177 e178 e179 e180 e181 e182 e183 e184 e185 e186 e187 e188 e189 e190 e191 e192 e193 e194 e195 e196 e197 e198 e199 e200 e201 e202 e203 e204 e205 e206 e207 e208 e209 e210 e211 : Value) (Q : Exit → Act → World → Prop) (X : Code)
  (hX : ∀ (w' : World) (f19 f121 f122 f123 f124 f125 f126 f127 f128 f129 f130 f131 f132 f133 f134 f135 f136 f137 f138 f139 f140 f141 f142 f143 f144 f145 f146 f147 f148 f149 f150 f151 f152 f153 f154 f155 f156 f157 f158 f159 f160 : Value), SolW w0 T U V O B F D to (shiftK own done step ⟨u, v, near⟩ m).u (shiftK own done step ⟨u, v, near⟩ m).v own (shiftK own done step ⟨u, v, near⟩ m).near frm done w' → Code.wp Tryz.prog X Q { tmps := #[e0, .int .i64 m, e2, e3, e4, .slice (some ⟨U, 0, none⟩) n n, .slice (some ⟨V, 0, none⟩) m m, e7, .slice (some ⟨O, 0, none⟩) m m, e9, .slice (some ⟨B, 0, none⟩) m m, e11, .slice (some ⟨D, 0, none⟩) m m, e13, e14, .int .i64 step, e16, e17, e18, f19, e20, e21, e22, e23, e24, e25, e26, e27, e28, e29, e30, e31, e32, e33, e34, e35, e36, e37, e38, e39, e40, e41, e42, e43, e44, e45, e46, e47, e48, e49, e50, e51, e52, e53, e54, e55, e56, e57, e58, e59, e60, e61, e62, e63, e64, e65, e66, e67, e68, e69, e70, e71, e72, e73, e74, e75, e76, e77, e78, e79, e80, e81, e82, e83, e84, e85, e86, e87, e88, e89, e90, e91, e92, e93, e94, e95, e96, e97, e98, e99, e100, e101, e102, e103, e104, e105, e106, e107, e108, e109, e110, e111, e112, e113, e114, e115, e116, e117, e118, e119, e120, f121, f122, f123, f124, f125, f126, f127, f128, f129, f130, f131, f132, f133, f134, f135, f136, f137, f138, f139, f140, f141, f142, f143, f144, f145, f146, f147, f148, f149, f150, f151, f152, f153, f154, f155, f156, f157, f158, f159, f160, e161, e162, e163, e164, e165, e166, e167, e168, e169, e170, e171, e172, e173, e174, e175, e176, e177, e178, e179, e180, e181, e182, e183, e184, e185, e186, e187, e188, e189, e190, e191, e192, e193, e194, e195, e196, e197, e198, e199, e200, e201, e202, e203, e204, e205, e206, e207, e208, e209, e210, e211], defers := [] } w') :
  Code.wp Tryz.prog (.seq shiftS X) Q { tmps := #[e0, .int .i64 m, e2, e3, e4, .slice (some ⟨U, 0, none⟩) n n, .slice (some ⟨V, 0, none⟩) m m, e7, .slice (some ⟨O, 0, none⟩) m m, e9, .slice (some ⟨B, 0, none⟩) m m, e11, .slice (some ⟨D, 0, none⟩) m m, e13, e14, .int .i64 step, e16, e17, e18, e19, e20, e21, e22, e23, e24, e25, e26, e27, e28, e29, e30, e31, e32, e33, e34, e35, e36, e37, e38, e39, e40, e41, e42, e43, e44, e45, e46, e47, e48, e49, e50, e51, e52, e53, e54, e55, e56, e57, e58, e59, e60, e61, e62, e63, e64, e65, e66, e67, e68, e69, e70, e71, e72, e73, e74, e75, e76, e77, e78, e79, e80, e81, e82, e83, e84, e85, e86, e87, e88, e89, e90, e91, e92, e93, e94, e95, e96, e97, e98, e99, e100, e101, e102, e103, e104, e105, e106, e107, e108, e109, e110, e111, e112, e113, e114, e115, e116, e117, e118, e119, e120, e121, e122, e123, e124, e125, e126, e127, e128, e129, e130, e131, e132, e133, e134, e135, e136, e137, e138, e139, e140, e141, e142, e143, e144, e145, e146, e147, e148, e149, e150, e151, e152, e153, e154, e155, e156, e157, e158, e159, e160, e161, e162, e163, e164, e165, e166, e167, e168, e169, e170, e171, e172, e173, e174, e175, e176, e177, e178, e179, e180, e181, e182, e183, e184, e185, e186, e187, e188, e189, e190, e191, e192, e193, e194, e195, e196, e197, e198, e199, e200, e201, e202, e203, e204, e205, e206, e207, e208, e209, e210, e211], defers := [] } w := by
 have HX := Lib.hid hX; have HM := Lib.hid hM; have HOW := Lib.hid hown
 have HOL := Lib.hid hol; have HDL := Lib.hid hdl
 have hsl := fun k => shift_len own done step ⟨u, v, near⟩ k
 rw [show (ShiftS.mk u v near).u = u from rfl, show (ShiftS.mk u v near).v = v from rfl, show (ShiftS.mk u v near).near = near from rfl, hu, hv, hn] at hsl
 have HSL := Lib.hid hsl
 clear hX hM hown hu hv hdl hn hol hsl
 unfold shiftS bodyS srcR scR bodyR loopR part65n3 code65
 conv => arg 2; arg 1; whnf
 go_wp2_with fail
 go_loopw [122] (fun iv wr => ∃ j : Nat, j ≤ m ∧ iv = .int .i64 j ∧ Hid (SolW w0 T U V O B F D to (shiftK own done step ⟨u, v, near⟩ j).u (shiftK own done step ⟨u, v, near⟩ j).v own (shiftK own done step ⟨u, v, near⟩ j).near frm done wr)) (fun iv _ => m - (intOf iv).toNat)
 case atStart => exact ⟨0, Nat.zero_le _, rfl, HM⟩
 case round =>
  clear HM
  obtain ⟨j, hjm, rfl, hM⟩ := hrel
  by_cases hj : j < m
  ·have hj' : (j : Int) < (m : Int) := by omega
   obtain ⟨l1, l2, l3⟩ := HSL.out j
   have hstep := shiftK_succ own done step ⟨u, v, near⟩ j
   have cd := hM.out.done.cell (j := j) (by rw [HDL.out]; exact hj)
   have co := hM.out.own.cell (j := j) (by rw [HOL.out]; exact hj)
   have HST := Lib.hid hstep; have HL1 := Lib.hid l1; have HL2 := Lib.hid l2; have HL3 := Lib.hid l3
   clear hstep l1 l2 l3
   generalize shiftK own done step ⟨u, v, near⟩ j = s at *
   cases hdj : gb done j with
   | true =>
    rw [hdj] at cd
    obtain ⟨ho0, hon⟩ := HOW.out j hj hdj
    obtain ⟨q, hq⟩ : ∃ q : Nat, gi own j = (q : Int) := ⟨(gi own j).toNat, by omega⟩
    rw [hq] at co
    have hqn : (q : Int) < (n : Int) := by omega
    have he : shiftK own done step ⟨u, v, near⟩ (j + 1) = ⟨s.u.set q (wrap64 (gi s.u q + step)), s.v.set j (wrap64 (gi s.v j - step)), s.near⟩ := by
     rw [HST.out]; unfold shift1; rw [if_pos hdj, hq]; rfl
    have hM2 := (hM.out.set_u q (wrap64 (gi s.u q + step)))
    have hM3 := hM2.set_v j (wrap64 (gi s.v j - step))
    have cu := hM.out.u.cell (j := q) (by rw [HL1.out]; omega)
    have fu := hM.out.u.free q
    have cv := hM2.v.cell (j := j) (by rw [HL2.out]; exact hj)
    have fv := hM2.v.free j
    have HE := Lib.hid he; have HM3 := Lib.hid hM3
    clear he hM2 hM3 hM ho0 hon hq hdj
    generalize hus : gi s.u q = us at *
    generalize hvs : gi s.v j = vs at *
    clear hus hvs
    go_wp2_with fail
    exact ⟨⟨j + 1, by omega, by go_num, by rw [HE.out]; exact HM3⟩, by simp [intOf]; omega⟩
   | false =>
    rw [hdj] at cd
    have cn := hM.out.near.cell (j := j) (by rw [HL3.out]; exact hj)
    have fn := hM.out.near.free j
    by_cases hlt : gi s.near j < neverI
    ·have he : shiftK own done step ⟨u, v, near⟩ (j + 1) = ⟨s.u, s.v, s.near.set j (wrap64 (gi s.near j - step))⟩ := by
      rw [HST.out]; unfold shift1; rw [if_neg (by rw [hdj]; decide), if_pos hlt]
     have hd : decide (gi s.near j < 1152921504606846976) = true := decide_eq_true hlt
     have HM3 := Lib.hid (hM.out.set_near j (wrap64 (gi s.near j - step)))
     have HE := Lib.hid he
     clear he hM hdj hlt
     generalize hns : gi s.near j = ns at *
     clear hns
     go_wp2_with fail
     exact ⟨⟨j + 1, by omega, by go_num, by rw [HE.out]; exact HM3⟩, by simp [intOf]; omega⟩
    ·have he : shiftK own done step ⟨u, v, near⟩ (j + 1) = s := by
      rw [HST.out]; unfold shift1; rw [if_neg (by rw [hdj]; decide), if_neg hlt]
     have hd : decide (gi s.near j < 1152921504606846976) = false := decide_eq_false hlt
     have HE := Lib.hid he
     clear he hdj hlt
     generalize hns : gi s.near j = ns at *
     clear hns
     go_wp2_with fail
     exact ⟨⟨j + 1, by omega, by go_num, by rw [HE.out]; exact hM⟩, by simp [intOf]; omega⟩
  ·obtain rfl : j = m := by omega
   have hj' : ¬ (j : Int) < (j : Int) := by omega
   go_wp2_with fail
   exact HX.out _ _ _ _ _ _ _ _ _ _ _ _ _ _ _ _ _ _ _ _ _ _ _ _ _ _ _ _ _ _ _ _ _ _ _ _ _ _ _ _ _ _ hM.out
end Go.Proofs.YtggcbblikgankaaGreatDoor
end
section
namespace Go.Proofs.YtggcbblikgankaaGreatDoor
open Go Go.RowKit Go.Deep
theorem row_facts {w0 : World} {aoC : Option Addr} {n m ccC row : Nat} {cost : List (List Int)} (hC : IsMat w0 (.slice aoC n ccC) cost) (hl : cost.length = n) (hm : ∀ r ∈ cost, r.length = m) (hrow : row < n) :
  ∃ bC oC bR oR cR, aoC = some ⟨bC, oC, none⟩ ∧ ∀ j, j < m → ∀ W, Below w0.heap.size w0 W → W.cell? ⟨bC, oC + row, none⟩ = some (.slice (some ⟨bR, oR, none⟩) m cR) ∧ W.cell? ⟨bR, oR + j, none⟩ = some (.int .i64 (gi (cost[row]?.getD []) j)) := by
 obtain ⟨bC, oC, e, ar, cr, hc, hr, hlt⟩ := hC.at_ (i := row) (by omega)
 have hrl : (cost[row]?.getD []).length = m := by
  rw [List.getElem?_eq_getElem (by omega)]
  exact hm _ (List.getElem_mem _)
 rw [hrl] at hc hr
 by_cases h0 : m = 0
 ·exact ⟨bC, oC, 0, 0, 0, e, fun j hj => by omega⟩
 ·obtain ⟨bR, oR, e2, _, _⟩ := hr.int (j := 0) (by omega)
  subst e2
  refine ⟨bC, oC, bR, oR, cr, e, fun j hj W hW => ⟨(hW.cell (p := ⟨bC, oC + row, none⟩) hlt).trans hc, ?_⟩⟩
  obtain ⟨b2, o2, e3, hc2, hlt2⟩ := (hr.below hW (Nat.le_refl _)).int (j := j) (by omega)
  injection e3 with e3
  injection e3 with e4 e5
  subst e4 e5
  exact hc2
def cntF (D : Nat) (w : World) : Nat := match w.heap[D]? with
 | some (.cells cs _ _) => cs.toList.countP (fun v => match v with | .bool false => true | _ => false)
 | _ => 0
theorem cntF_of {D : Nat} {w : World} {done : List Bool} (h : BB w D done) : cntF D w = done.countP (fun b => !b) := by
 unfold BB at h
 unfold cntF
 rw [h]
 show (boolsL done).toArray.toList.countP _ = _
 unfold boolsL
 rw [List.toList_toArray, List.countP_map]
 congr 1
 funext b
 cases b <;> rfl
theorem cnt_set : ∀ (done : List Bool) (x : Nat), x < done.length → gb done x = false → (done.set x true).countP (fun b => !b) < done.countP (fun b => !b)
 | [], x, h, _ => by simp at h
 | b :: r, 0, _, h => by
  have hb : b = false := h
  subst hb
  simp
 | b :: r, x + 1, h, hg => by
  have ih := cnt_set r x (by simpa using h) hg
  rw [List.set_cons_succ, List.countP_cons, List.countP_cons]
  omega
theorem results_tmp4 {fn : Func} {t u v x : Go.Tmp} (h : fn.results = #[.tmp t, .tmp u, .tmp v, .tmp x]) (tmps : Array Value) (P : Program) (w : World) :
  (results fn tmps).run P w = .ok (.tuple #[tmps.getD t undef, tmps.getD u undef, tmps.getD v undef, tmps.getD x undef]) w := by
 simp [results, h]
theorem ownedB_iff {n m : Nat} {own : List Int} {done : List Bool} (h : ownedB n m own done = true) : ∀ j, j < m → gb done j = true → 0 ≤ gi own j ∧ gi own j < n := by
 intro j hj hd
 unfold ownedB at h
 have := List.all_eq_true.1 h j (by simpa using hj)
 rw [hd] at this
 simpa using this
noncomputable def mid1 : Code := sndC (sndC bodyS)
noncomputable def sh8 : Code := sndC (sndC mid1)
noncomputable def mid2 : Code := sndC sh8
noncomputable def scS : Code := .seq scanS mid1
noncomputable def shS : Code := .seq shiftS mid2
structure SrL (n m : Nat) (s : SrchS) : Prop where
 u : s.u.length = n
 v : s.v.length = m
 near : s.near.length = m
 frm : s.frm.length = m
 done : s.done.length = m
set_option maxRecDepth 100000 in
set_option maxHeartbeats 8000000 in
theorem srch_loop (w0 : World) (T U V O B F D : Nat) (to own : List Int) (cost : List (List Int)) (aoC : Option Addr) (ccC n m i : Nat) (hi : i < n) (hC : IsMat w0 (.slice aoC n ccC) cost) (hl : cost.length = n) (hrl : ∀ r ∈ cost, r.length = m) (hm0 : m ≤ 1000) (hn0 : n ≤ 1000) (hol : own.length = m)
  (k0 : Nat) (s0 : SrchS) (hs : SrL n m s0) (res : Option SrchS) (hres : srchM cost n m i own k0 s0 = some res)
  (w : World) (hM : SolW w0 T U V O B F D to s0.u s0.v own s0.near s0.frm s0.done w) (e2 e3 e7 e15 e16 e17 e18 e19 e20 e21 e22 e23 e24 e25 e26 e27 e28 e29 e30 e31 e32 e33 e34 e35 e36 e37 e38 e39 e40 e41 e42 e43 e44 e45 e46 e47 e48 e49 e50 e51 e52 e53 e54 e55 e56 e57 e58 e59 e60 e61 e62 e63 e64 e65 e66 e67 e68 e69 e70 e71 e72 e73 e74 e75 e76 e77 e78 e79 e80 e81 e82 e83 e84 e85 e86 e87 e88 e89 e90 e91 e92 e93 e94 e95 e96 e97 e98 e99 e100 e101 e102 e103 e104 e105 e106 e107 e108 e109 e110 e111 e112 e113 e114 e115 e116 e117 e118 e119 e120 e121 e122 e123 e124 e125 e126 e127 e128 e129 e130 e131 e132 e133 e134 e135 e136 e137 e138 e139 e140 e141 e142 e143 e144 e145 e146 e147 e148 e149 e150 e151 e152 e153 e154 e155 e156 e157 e158 e159 e160 e161 e162 e163 e164 e165 e166 e167 e168 e169 e170 e171 e172 e173 e174 e175 e176 e177 e178 e179 e180 e181 e182 e183 e184 e185 e186 e187 e188 e189 e190 e191 e192 e193 e194 e195 e196 e197 e198 e199 e200 e201 e202 e203 e204 e205 e206 e207 e208 e209 e210 e211 : Value) (Q : Exit → Act → World → Prop) (X : Code)
  (hF : res = none → ∀ (w' : World) (f13 f14 f15 f16 f17 f18 f19 f47 f48 f49 f50 f51 f52 f53 f54 f55 f56 f57 f58 f59 f60 f61 f62 f63 f64 f65 f66 f67 f68 f69 f70 f71 f72 f73 f74 f75 f76 f77 f78 f79 f80 f81 f82 f83 f84 f85 f86 f87 f88 f89 f90 f91 f92 f93 f94 f95 f96 f97 f98 f99 f100 f101 f102 f103 f104 f105 f106 f107 f108 f109 f110 f111 f112 f113 f114 f115 f116 f117 f118 f119 f120 f121 f122 f123 f124 f125 f126 f127 f128 f129 f130 f131 f132 f133 f134 f135 f136 f137 f138 f139 f140 f141 f142 f143 f144 f145 f146 f147 f148 f149 f150 f151 f152 f153 f154 f155 f156 f157 f158 f159 f160 f161 f162 f163 f164 f165 f166 f167 f168 f169 f170 f171 f172 f173 : Value), Below w0.heap.size w0 w' → Q .ret { tmps := #[.slice aoC n ccC, .int .i64 m, e2, e3, .slice none 0 0, .slice none 0 0, .slice none 0 0, .bool false, .slice (some ⟨O, 0, none⟩) m m, .int .i64 i, .slice (some ⟨B, 0, none⟩) m m, .slice (some ⟨F, 0, none⟩) m m, .slice (some ⟨D, 0, none⟩) m m, f13, f14, f15, f16, f17, f18, f19, e20, e21, e22, e23, e24, e25, e26, e27, e28, e29, e30, e31, e32, e33, e34, e35, e36, e37, e38, e39, e40, e41, e42, e43, e44, e45, e46, f47, f48, f49, f50, f51, f52, f53, f54, f55, f56, f57, f58, f59, f60, f61, f62, f63, f64, f65, f66, f67, f68, f69, f70, f71, f72, f73, f74, f75, f76, f77, f78, f79, f80, f81, f82, f83, f84, f85, f86, f87, f88, f89, f90, f91, f92, f93, f94, f95, f96, f97, f98, f99, f100, f101, f102, f103, f104, f105, f106, f107, f108, f109, f110, f111, f112, f113, f114, f115, f116, f117, f118, f119, f120, f121, f122, f123, f124, f125, f126, f127, f128, f129, f130, f131, f132, f133, f134, f135, f136, f137, f138, f139, f140, f141, f142, f143, f144, f145, f146, f147, f148, f149, f150, f151, f152, f153, f154, f155, f156, f157, f158, f159, f160, f161, f162, f163, f164, f165, f166, f167, f168, f169, f170, f171, f172, f173, e174, e175, e176, e177, e178, e179, e180, e181, e182, e183, e184, e185, e186, e187, e188, e189, e190, e191, e192, e193, e194, e195, e196, e197, e198, e199, e200, e201, e202, e203, e204, e205, e206, e207, e208, e209, e210, e211], defers := [] } w')
  (hX : ∀ t, res = some t → SrL n m t → ∀ (w' : World) (f7 f14 f15 f16 f17 f18 f19 f47 f48 f49 f50 f51 f52 f53 f54 f55 f56 f57 f58 f59 f60 f61 f62 f63 f64 f65 f66 f67 f68 f69 f70 f71 f72 f73 f74 f75 f76 f77 f78 f79 f80 f81 f82 f83 f84 f85 f86 f87 f88 f89 f90 f91 f92 f93 f94 f95 f96 f97 f98 f99 f100 f101 f102 f103 f104 f105 f106 f107 f108 f109 f110 f111 f112 f113 f114 f115 f116 f117 f118 f119 f120 f121 f122 f123 f124 f125 f126 f127 f128 f129 f130 f131 f132 f133 f134 f135 f136 f137 f138 f139 f140 f141 f142 f143 f144 f145 f146 f147 f148 f149 f150 f151 f152 f153 f154 f155 f156 f157 f158 f159 f160 f161 f162 f163 f164 f165 f166 f167 f168 f169 f170 f171 f172 f173 : Value), SolW w0 T U V O B F D to t.u t.v own t.near t.frm t.done w' → Code.wp Tryz.prog X Q { tmps := #[.slice aoC n ccC, .int .i64 m, e2, e3, .slice (some ⟨T, 0, none⟩) n n, .slice (some ⟨U, 0, none⟩) n n, .slice (some ⟨V, 0, none⟩) m m, f7, .slice (some ⟨O, 0, none⟩) m m, .int .i64 i, .slice (some ⟨B, 0, none⟩) m m, .slice (some ⟨F, 0, none⟩) m m, .slice (some ⟨D, 0, none⟩) m m, .int .i64 t.at_, f14, f15, f16, f17, f18, f19, e20, e21, e22, e23, e24, e25, e26, e27, e28, e29, e30, e31, e32, e33, e34, e35, e36, e37, e38, e39, e40, e41, e42, e43, e44, e45, e46, f47, f48, f49, f50, f51, f52, f53, f54, f55, f56, f57, f58, f59, f60, f61, f62, f63, f64, f65, f66, f67, f68, f69, f70, f71, f72, f73, f74, f75, f76, f77, f78, f79, f80, f81, f82, f83, f84, f85, f86, f87, f88, f89, f90, f91, f92, f93, f94, f95, f96, f97, f98, f99, f100, f101, f102, f103, f104, f105, f106, f107, f108, f109, f110, f111, f112, f113, f114, f115, f116, f117, f118, f119, f120, f121, f122, f123, f124, f125, f126, f127, f128, f129, f130, f131, f132, f133, f134, f135, f136, f137, f138, f139, f140, f141, f142, f143, f144, f145, f146, f147, f148, f149, f150, f151, f152, f153, f154, f155, f156, f157, f158, f159, f160, f161, f162, f163, f164, f165, f166, f167, f168, f169, f170, f171, f172, f173, e174, e175, e176, e177, e178, e179, e180, e181, e182, e183, e184, e185, e186, e187, e188, e189, e190, e191, e192, e193, e194, e195, e196, e197, e198, e199, e200, e201, e202, e203, e204, e205, e206, e207, e208, e209, e210, e211], defers := [] } w') :
  Code.wp Tryz.prog (.seq (fstC (sndC (sndC (sndC scR)))) X) Q { tmps := #[.slice aoC n ccC, .int .i64 m, e2, e3, .slice (some ⟨T, 0, none⟩) n n, .slice (some ⟨U, 0, none⟩) n n, .slice (some ⟨V, 0, none⟩) m m, e7, .slice (some ⟨O, 0, none⟩) m m, .int .i64 i, .slice (some ⟨B, 0, none⟩) m m, .slice (some ⟨F, 0, none⟩) m m, .slice (some ⟨D, 0, none⟩) m m, .int .i64 s0.at_, .int .i64 s0.row, e15, e16, e17, e18, e19, e20, e21, e22, e23, e24, e25, e26, e27, e28, e29, e30, e31, e32, e33, e34, e35, e36, e37, e38, e39, e40, e41, e42, e43, e44, e45, e46, e47, e48, e49, e50, e51, e52, e53, e54, e55, e56, e57, e58, e59, e60, e61, e62, e63, e64, e65, e66, e67, e68, e69, e70, e71, e72, e73, e74, e75, e76, e77, e78, e79, e80, e81, e82, e83, e84, e85, e86, e87, e88, e89, e90, e91, e92, e93, e94, e95, e96, e97, e98, e99, e100, e101, e102, e103, e104, e105, e106, e107, e108, e109, e110, e111, e112, e113, e114, e115, e116, e117, e118, e119, e120, e121, e122, e123, e124, e125, e126, e127, e128, e129, e130, e131, e132, e133, e134, e135, e136, e137, e138, e139, e140, e141, e142, e143, e144, e145, e146, e147, e148, e149, e150, e151, e152, e153, e154, e155, e156, e157, e158, e159, e160, e161, e162, e163, e164, e165, e166, e167, e168, e169, e170, e171, e172, e173, e174, e175, e176, e177, e178, e179, e180, e181, e182, e183, e184, e185, e186, e187, e188, e189, e190, e191, e192, e193, e194, e195, e196, e197, e198, e199, e200, e201, e202, e203, e204, e205, e206, e207, e208, e209, e210, e211], defers := [] } w := by
 have HX := Lib.hid hX; have HM := Lib.hid hM; have HF := Lib.hid hF; have HC := Lib.hid hC; have HRL := Lib.hid hrl; have HL := Lib.hid hl; have HS := Lib.hid hs; have HRES := Lib.hid hres; have HOL := Lib.hid hol
 clear hX hM hF hC hrl hl hs hres hol
 unfold scR bodyR loopR part65n3 code65
 conv => arg 2; arg 1; whnf
 go_wp2_with fail
 go_loopw [4, 5, 6, 13, 14] (fun tv uv vv av rv wr => tv = .slice (some ⟨T, 0, none⟩) n n ∧ uv = .slice (some ⟨U, 0, none⟩) n n ∧ vv = .slice (some ⟨V, 0, none⟩) m m ∧ ∃ (k : Nat) (s : SrchS), av = .int .i64 s.at_ ∧ rv = .int .i64 (s.row : Nat) ∧ Hid (SolW w0 T U V O B F D to s.u s.v own s.near s.frm s.done wr) ∧ Hid (SrL n m s) ∧ Hid (srchM cost n m i own k s = some res)) (fun _ _ _ _ _ wr => cntF D wr)
 case atStart => exact ⟨rfl, rfl, rfl, k0, s0, rfl, rfl, HM, HS, HRES⟩
 case round =>
  clear HM HS HRES
  obtain ⟨rfl, rfl, rfl, k, s, rfl, rfl, hM, hS, hR⟩ := hrel
  have hr := hR.out
  clear hR
  rcases k with _ | k
  ·exact absurd hr (by simp [srchM])
  rw [srchM] at hr
  by_cases hq : s.row < n ∧ ownedB n m own s.done = true
  ·rw [if_pos hq] at hr
   simp only at hr
   obtain ⟨hrow, howned⟩ := hq
   obtain ⟨bC, oC, bR, oR, cR, rfl, hcr⟩ := row_facts HC.out HL.out HRL.out hrow
   have hok := scan_ok (cost[s.row]?.getD []) s.v s.done (gi s.u s.row) s.at_ s.near s.frm m hS.out.near hS.out.frm m (Nat.le_refl _)
   have HR := Lib.hid hr; have HOK := Lib.hid hok; have HOWN := Lib.hid (ownedB_iff howned)
   clear hr hok howned
   change Code.wp Tryz.prog (.block 3 (.seq (fstC bodyS) scS)) _ _ _
   go_wp2_with fail
   conv => arg 2; whnf
   go_wp2_with fail
   unfold scS
   refine scan_loop w0 T U V O B F D to s.u s.v own s.near s.frm s.done bC oC ccC n m bR oR cR (cost[s.row]?.getD []) s.row s.at_ hrow hS.out.u hS.out.v hS.out.near hS.out.frm hS.out.done hm0 hcr wr hM.out _ _ _ _ _ _ _ _ _ _ _ _ _ _ _ _ _ _ _ _ _ _ _ _ _ _ _ _ _ _ _ _ _ _ _ _ _ _ _ _ _ _ _ _ _ _ _ _ _ _ _ _ _ _ _ _ _ _ _ _ _ _ _ _ _ _ _ _ _ _ _ _ _ _ _ _ _ _ _ _ _ _ _ _ _ _ _ _ _ _ _ _ _ _ _ _ _ _ _ _ _ _ _ _ _ _ _ _ _ _ _ _ _ _ _ _ _ _ _ _ _ _ _ _ _ _ _ _ _ _ _ _ _ _ _ _ _ _ _ _ _ _ _ _ _ _ _ _ _ _ _ _ _ _ _ _ _ _ _ _ _ _ _ _ _ _ _ _ _ _ _ _ _ _ _ _ _ _ _ _ _ _ _ _ _ _ _ _ _ _ _ _ _ _ _ _ _ _ _ _ _ _ _ ?_
   intro w1 _ _ _ _ _ _ _ _ _ _ _ _ _ _ _ _ _ _ _ _ _ _ _ _ _ _ _ _ _ _ _ _ _ _ _ _ _ _ _ _ _ _ _ _ _ _ _ _ _ _ _ _ _ _ _ _ _ _ _ _ _ _ _ _ _ _ _ hM1
   have HM1 := Lib.hid hM1
   clear hM1 hcr
   generalize scanK (cost[s.row]?.getD []) s.v s.done (gi s.u s.row) s.at_ s.near s.frm m = a at *
   obtain ⟨anear, afrm, astep, anext⟩ := a
   simp only at HR HM1
   change Code.wp Tryz.prog (.seq (fstC mid1) (.seq (fstC (sndC mid1)) shS)) _ _ _
   rcases HOK.out.best with ⟨e1, e2, e3⟩ | ⟨x, e1, e2, e3, e4, e5, e6⟩
   ·simp only at e1
    subst e1
    have hres : res = none := by have := HR.out; simpa using this.symm
    go_wp2_with fail
    conv => arg 2; whnf
    go_wp2_with fail
    try simp only [Exit.inBlock, Exit.then]
    exact HF.out hres _ _ _ _ _ _ _ _ _ _ _ _ _ _ _ _ _ _ _ _ _ _ _ _ _ _ _ _ _ _ _ _ _ _ _ _ _ _ _ _ _ _ _ _ _ _ _ _ _ _ _ _ _ _ _ _ _ _ _ _ _ _ _ _ _ _ _ _ _ _ _ _ _ _ _ _ _ _ _ _ _ _ _ _ _ _ _ _ _ _ _ _ _ _ _ _ _ _ _ _ _ _ _ _ _ _ _ _ _ _ _ _ _ _ _ _ _ _ _ _ _ _ _ _ _ _ _ _ _ _ _ _ _ _ _ HM1.out.below
   ·simp only at e1
    subst e1
    have hx0 : decide ((x : Int) < 0) = false := by simp
    have HE3 := Lib.hid e3
    have hln : anear.length = m := HOK.out.ln
    have hlf : afrm.length = m := HOK.out.lf
    have cu := HM1.out.u.cell (j := i) (by rw [hS.out.u]; exact hi)
    have fu := HM1.out.u.free i
    have hM2 := HM1.out.set_u i (wrap64 (gi s.u i + astep))
    have HM2 := Lib.hid hM2; have HLN := Lib.hid hln; have HLF := Lib.hid hlf
    have hin : (i : Int) < (n : Int) := by omega
    have hxm : (x : Int) < (m : Int) := by omega
    have hr2 := HR.out
    rw [if_neg (by omega), Int.toNat_natCast] at hr2
    have HR2 := Lib.hid hr2
    clear e3 e4 e5 e6 hM2 hln hlf hr2 HR HM1 HOK
    generalize hui : gi s.u i = ui at *
    go_wp2_with fail
    conv => arg 2; whnf
    go_wp2_with fail
    conv => arg 2; whnf
    go_wp2_with fail
    unfold shS
    refine shift_loop w0 T U V O B F D to (s.u.set i (wrap64 (ui + astep))) s.v own anear afrm s.done n m astep (by simp [hS.out.u]) hS.out.v HLN.out HOL.out hS.out.done hm0 HOWN.out _ HM2.out _ _ _ _ _ _ _ _ _ _ _ _ _ _ _ _ _ _ _ _ _ _ _ _ _ _ _ _ _ _ _ _ _ _ _ _ _ _ _ _ _ _ _ _ _ _ _ _ _ _ _ _ _ _ _ _ _ _ _ _ _ _ _ _ _ _ _ _ _ _ _ _ _ _ _ _ _ _ _ _ _ _ _ _ _ _ _ _ _ _ _ _ _ _ _ _ _ _ _ _ _ _ _ _ _ _ _ _ _ _ _ _ _ _ _ _ _ _ _ _ _ _ _ _ _ _ _ _ _ _ _ _ _ _ _ _ _ _ _ _ _ _ _ _ _ _ _ _ _ _ _ _ _ _ _ _ _ _ _ _ _ _ _ _ _ _ _ _ _ _ _ _ _ _ _ _ _ _ _ _ _ _ _ _ _ _ _ _ _ _ _ _ _ _ _ _ _ _ _ _ _ _ _ _ _ _ _ ?_
    intro w2 _ _ _ _ _ _ _ _ _ _ _ _ _ _ _ _ _ _ _ _ _ _ _ _ _ _ _ _ _ _ _ _ _ _ _ _ _ _ _ _ _ hM3
    have HM3 := Lib.hid hM3
    clear hM3 cu fu HM2
    have HSL := Lib.hid (shift_len own s.done astep ⟨s.u.set i (wrap64 (ui + astep)), s.v, anear⟩ m)
    generalize shiftK own s.done astep ⟨s.u.set i (wrap64 (ui + astep)), s.v, anear⟩ m = b at *
    have cD := HM3.out.done.cell (j := x) (by rw [hS.out.done]; exact e2)
    have fD := HM3.out.done.free x
    have hM4 := HM3.out.set_done x true
    have co := hM4.own.cell (j := x) (by rw [HOL.out]; exact e2)
    have HM4 := Lib.hid hM4
    have hlen : SrL n m ⟨b.u, b.v, b.near, afrm, s.done.set x true, x, s.row⟩ := by
     obtain ⟨q1, q2, q3⟩ := HSL.out
     exact ⟨by show b.u.length = n; rw [q1]; simp [hS.out.u], by show b.v.length = m; rw [q2]; exact hS.out.v, by show b.near.length = m; rw [q3]; exact HLN.out, HLF.out, by simp [hS.out.done]⟩
    have HLEN := Lib.hid hlen
    have hcnt : cntF D (w2.setCell ⟨D, x, none⟩ (.bool true)) < cntF D wr := by
     rw [cntF_of hM4.done, cntF_of hM.out.done]
     exact cnt_set s.done x (by rw [hS.out.done]; exact e2) HE3.out
    have HCNT := Lib.hid hcnt
    clear hM4 hlen hcnt HM3 HSL
    by_cases hf : gi own x < 0
    ·have hd : decide (gi own x < 0) = true := decide_eq_true hf
     have hr3 := HR2.out
     rw [if_pos hf] at hr3
     have hres := Lib.hid (Option.some.inj hr3).symm
     clear hr3 HR2 hf
     generalize gi own x = ox at *
     conv => arg 2; whnf
     go_wp2_with fail
     exact HX.out _ hres.out ⟨HLEN.out.u, HLEN.out.v, HLEN.out.near, HLEN.out.frm, HLEN.out.done⟩ _ _ _ _ _ _ _ _ _ _ _ _ _ _ _ _ _ _ _ _ _ _ _ _ _ _ _ _ _ _ _ _ _ _ _ _ _ _ _ _ _ _ _ _ _ _ _ _ _ _ _ _ _ _ _ _ _ _ _ _ _ _ _ _ _ _ _ _ _ _ _ _ _ _ _ _ _ _ _ _ _ _ _ _ _ _ _ _ _ _ _ _ _ _ _ _ _ _ _ _ _ _ _ _ _ _ _ _ _ _ _ _ _ _ _ _ _ _ _ _ _ _ _ _ _ _ _ _ _ _ _ _ _ _ _ HM4.out
    ·have hd : decide (gi own x < 0) = false := decide_eq_false hf
     have hr3 := HR2.out
     rw [if_neg hf] at hr3
     have HR3 := Lib.hid hr3
     obtain ⟨q, hqx⟩ : ∃ q : Nat, gi own x = (q : Int) := ⟨(gi own x).toNat, by omega⟩
     rw [hqx, Int.toNat_natCast] at HR3
     have HQX := Lib.hid hqx
     rw [hqx] at co hd
     clear hr3 HR2 hf hqx
     conv => arg 2; whnf
     go_wp2_with fail
     go_roundw
     case rel => exact ⟨rfl, rfl, rfl, k, ⟨b.u, b.v, b.near, afrm, s.done.set x true, x, q⟩, rfl, rfl, HM4, ⟨HLEN.out.u, HLEN.out.v, HLEN.out.near, HLEN.out.frm, HLEN.out.done⟩, HR3⟩
     case measure => exact HCNT.out
  ·rw [if_neg hq] at hr; cases hr
end Go.Proofs.YtggcbblikgankaaGreatDoor
end
section
namespace Go.Proofs.YtggcbblikgankaaGreatDoor
open Go Go.RowKit Go.Deep
noncomputable def augR : Code := sndC (sndC (sndC (sndC scR)))
def lenA (frm : List Int) : Nat → Int → Nat
 | 0, _ => 0
 | k + 1, a => if a < 0 then 0 else 1 + lenA frm k (gi frm a.toNat)
theorem lenA_succ (frm : List Int) (k : Nat) (a : Int) : lenA frm (k + 1) a = if a < 0 then 0 else 1 + lenA frm k (gi frm a.toNat) := rfl
theorem lenA_of {i m : Nat} {frm : List Int} : ∀ (k : Nat) (own : List Int) (a : Int) (res : List Int), augM i m frm k own a = some res → ∀ K, k ≤ K → lenA frm K a = lenA frm k a
 | 0, own, a, res, h, K, _ => by
  unfold augM at h
  by_cases ha : a < 0
  ·cases K with
   | zero => rfl
   | succ K => unfold lenA; rw [if_pos ha]
  ·rw [if_neg ha] at h; cases h
 | k + 1, own, a, res, h, K, hK => by
  obtain ⟨K, rfl⟩ : ∃ K', K = K' + 1 := ⟨K - 1, by omega⟩
  by_cases ha : a < 0
  ·unfold lenA; rw [if_pos ha, if_pos ha]
  ·rw [augM, if_neg ha] at h
   split at h
   ·have ih := lenA_of k _ _ res h K (by omega)
    unfold lenA
    rw [if_neg ha, if_neg ha, ih]
   ·cases h
set_option maxRecDepth 100000 in
set_option maxHeartbeats 8000000 in
theorem aug_loop (w0 : World) (T U V O B F D : Nat) (to u v own near frm : List Int) (done : List Bool) (m i : Nat) (hm0 : m ≤ 1000) (hf : frm.length = m) (hol : own.length = m)
  (k0 : Nat) (a0 : Int) (res : List Int) (hres : augM i m frm k0 own a0 = some res)
  (w : World) (hM : SolW w0 T U V O B F D to u v own near frm done w) (e0 e1 e2 e3 e4 e5 e6 e7 e10 e12 e14 e15 e16 e17 e18 e19 e20 e21 e22 e23 e24 e25 e26 e27 e28 e29 e30 e31 e32 e33 e34 e35 e36 e37 e38 e39 e40 e41 e42 e43 e44 e45 e46 e47 e48 e49 e50 e51 e52 e53 e54 e55 e56 e57 e58 e59 e60 e61 e62 e63 e64 e65 e66 e67 e68 e69 e70 e71 e72 e73 e74 e75 e76 e77 e78 e79 e80 e81 e82 e83 e84 e85 e86 e87 e88 e89 e90 e91 e92 e93 e94 e95 e96 e97 e98 e99 e100 e101 e102 e103 e104 e105 e106 e107 e108 e109 e110 e111 e112 e113 e114 e115 e116 e117 e118 e119 e120 e121 e122 e123 e124 e125 e126 e127 e128 e129 e130 e131 e132 e133 e134 e135 e136 e137 e138 e139 e140 e141 e142 e143 e144 e145 e146 e147 e148 e149 e150 e151 e152 e153 e154 e155 e156 e157 e158 e159 e160 e161 e162 e163 e164 e165 e166 e167 e168 e169 e170 e171 e172 e173 e174 e175 e176 e177 e178 e179 e180 e181 e182 e183 e184 e185 e186 e187 e188 e189 e190 e191 e192 e193 e194 e195 e196 e197 e198 e199 e200 e201 e202 e203 e204 e205 e206 e207 e208 e209 e210 e211 : Value) (Q : Exit → Act → World → Prop)
  (hX : ∀ (w' : World) (f13 f20 f174 f175 f176 f177 f178 f179 f180 f181 f182 f183 f184 f185 f186 f187 f188 f189 f190 f191 f192 f193 : Value), SolW w0 T U V O B F D to u v res near frm done w' → res.length = m → Q .normal { tmps := #[e0, e1, e2, e3, e4, e5, e6, e7, .slice (some ⟨O, 0, none⟩) m m, .int .i64 i, e10, .slice (some ⟨F, 0, none⟩) m m, e12, f13, e14, e15, e16, e17, e18, e19, f20, e21, e22, e23, e24, e25, e26, e27, e28, e29, e30, e31, e32, e33, e34, e35, e36, e37, e38, e39, e40, e41, e42, e43, e44, e45, e46, e47, e48, e49, e50, e51, e52, e53, e54, e55, e56, e57, e58, e59, e60, e61, e62, e63, e64, e65, e66, e67, e68, e69, e70, e71, e72, e73, e74, e75, e76, e77, e78, e79, e80, e81, e82, e83, e84, e85, e86, e87, e88, e89, e90, e91, e92, e93, e94, e95, e96, e97, e98, e99, e100, e101, e102, e103, e104, e105, e106, e107, e108, e109, e110, e111, e112, e113, e114, e115, e116, e117, e118, e119, e120, e121, e122, e123, e124, e125, e126, e127, e128, e129, e130, e131, e132, e133, e134, e135, e136, e137, e138, e139, e140, e141, e142, e143, e144, e145, e146, e147, e148, e149, e150, e151, e152, e153, e154, e155, e156, e157, e158, e159, e160, e161, e162, e163, e164, e165, e166, e167, e168, e169, e170, e171, e172, e173, f174, f175, f176, f177, f178, f179, f180, f181, f182, f183, f184, f185, f186, f187, f188, f189, f190, f191, f192, f193, e194, e195, e196, e197, e198, e199, e200, e201, e202, e203, e204, e205, e206, e207, e208, e209, e210, e211], defers := [] } w') :
  Code.wp Tryz.prog augR Q { tmps := #[e0, e1, e2, e3, e4, e5, e6, e7, .slice (some ⟨O, 0, none⟩) m m, .int .i64 i, e10, .slice (some ⟨F, 0, none⟩) m m, e12, .int .i64 a0, e14, e15, e16, e17, e18, e19, e20, e21, e22, e23, e24, e25, e26, e27, e28, e29, e30, e31, e32, e33, e34, e35, e36, e37, e38, e39, e40, e41, e42, e43, e44, e45, e46, e47, e48, e49, e50, e51, e52, e53, e54, e55, e56, e57, e58, e59, e60, e61, e62, e63, e64, e65, e66, e67, e68, e69, e70, e71, e72, e73, e74, e75, e76, e77, e78, e79, e80, e81, e82, e83, e84, e85, e86, e87, e88, e89, e90, e91, e92, e93, e94, e95, e96, e97, e98, e99, e100, e101, e102, e103, e104, e105, e106, e107, e108, e109, e110, e111, e112, e113, e114, e115, e116, e117, e118, e119, e120, e121, e122, e123, e124, e125, e126, e127, e128, e129, e130, e131, e132, e133, e134, e135, e136, e137, e138, e139, e140, e141, e142, e143, e144, e145, e146, e147, e148, e149, e150, e151, e152, e153, e154, e155, e156, e157, e158, e159, e160, e161, e162, e163, e164, e165, e166, e167, e168, e169, e170, e171, e172, e173, e174, e175, e176, e177, e178, e179, e180, e181, e182, e183, e184, e185, e186, e187, e188, e189, e190, e191, e192, e193, e194, e195, e196, e197, e198, e199, e200, e201, e202, e203, e204, e205, e206, e207, e208, e209, e210, e211], defers := [] } w := by
 have HX := Lib.hid hX; have HM := Lib.hid hM; have HFL := Lib.hid hf; have HOL := Lib.hid hol; have HRES := Lib.hid hres
 clear hX hM hf hol hres
 unfold augR scR bodyR loopR part65n3 code65
 conv => arg 2; whnf
 go_wp2_with fail
 go_loopw [13] (fun av wr => ∃ (k : Nat) (o : List Int) (a : Int), k ≤ k0 ∧ av = .int .i64 a ∧ Hid (SolW w0 T U V O B F D to u v o near frm done wr) ∧ Hid (o.length = m) ∧ Hid (augM i m frm k o a = some res)) (fun av _ => lenA frm k0 (intOf av))
 case atStart => exact ⟨k0, own, a0, Nat.le_refl _, rfl, HM, HOL, HRES⟩
 case round =>
  clear HM HOL HRES
  obtain ⟨k, o, a, hk, rfl, hM, hO, hR⟩ := hrel
  by_cases ha : a < 0
  ·have hd : decide (0 ≤ a) = false := decide_eq_false (by omega)
   have hres : o = res := by
    have := hR.out
    cases k <;> (unfold augM at this; rw [if_pos ha] at this; exact Option.some.inj this)
   subst hres
   clear hR ha
   go_wp2_with fail
   exact HX.out _ _ _ _ _ _ _ _ _ _ _ _ _ _ _ _ _ _ _ _ _ _ _ hM.out hO.out
  ·have hd : decide (0 ≤ a) = true := decide_eq_true (by omega)
   rcases k with _ | k
   ·have := hR.out
    unfold augM at this
    rw [if_neg ha] at this
    cases this
   obtain ⟨x, rfl⟩ : ∃ x : Nat, a = (x : Int) := ⟨a.toNat, by omega⟩
   have hr := hR.out
   rw [augM, if_neg ha, Int.toNat_natCast] at hr
   by_cases hq : (x : Int) < (m : Int) ∧ gi frm x < (m : Int)
   ·rw [if_pos hq] at hr
    have hlen := lenA_of k _ _ res hr k0 (by omega)
    have hlen2 := lenA_of (k + 1) o _ res hR.out k0 hk
    obtain ⟨hxm, hbm⟩ := hq
    have cf := hM.out.frm.cell (j := x) (by rw [HFL.out]; omega)
    have co := hM.out.own.cell (j := x) (by rw [hO.out]; omega)
    have fo := hM.out.own.free x
    have hM2 := hM.out.set_own x i
    have co2 := hM2.own.cell (j := x) (by simp [hO.out]; omega)
    have fo2 := hM2.own.free x
    have hmu : lenA frm k0 (gi frm x) < lenA frm k0 (x : Int) := by
     rw [hlen, hlen2]
     rw [lenA_succ, if_neg ha, Int.toNat_natCast]
     omega
    have HMU := Lib.hid hmu; have HR2 := Lib.hid hr; have HM2 := Lib.hid hM2
    clear hlen hlen2 hmu hr hR hM2
    by_cases hb : 0 ≤ gi frm x
    ·have hd2 : decide (0 ≤ gi frm x) = true := decide_eq_true hb
     rw [if_pos hb] at HR2
     obtain ⟨y, hy⟩ : ∃ y : Nat, gi frm x = (y : Int) := ⟨(gi frm x).toNat, by omega⟩
     rw [hy] at cf hd2 hbm HR2 HMU
     rw [Int.toNat_natCast] at HR2
     have cy := HM2.out.own.cell (j := y) (by simp [hO.out]; omega)
     have HM3 := Lib.hid (HM2.out.set_own x (gi (o.set x i) y))
     have HYY := Lib.hid hy
     clear hy hb
     generalize gi (o.set x (i : Int)) y = oy at *
     go_wp2_with fail
     exact ⟨⟨k, (o.set x i).set x oy, (y : Int), by omega, rfl, HM3, Lib.hid (by simp [hO.out]), HR2⟩, HMU.out⟩
    ·have hd2 : decide (0 ≤ gi frm x) = false := decide_eq_false hb
     rw [if_neg hb] at HR2
     clear hb
     generalize gi frm x = bx at *
     go_wp2_with fail
     exact ⟨⟨k, o.set x i, bx, by omega, rfl, HM2, Lib.hid (by simp [hO.out]), HR2⟩, HMU.out⟩
   ·rw [if_neg hq] at hr; cases hr
end Go.Proofs.YtggcbblikgankaaGreatDoor
end
