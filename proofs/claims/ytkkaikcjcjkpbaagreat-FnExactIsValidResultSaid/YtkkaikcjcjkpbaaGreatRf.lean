/-
Library functions by the walk and by the shelf. No condition.
-/
import Derived.Test.YtkkaikcjcjkpbaaGreatRa
import Derived.Shelf.SlSortCmp.Whole1
import Derived.Shelf.Small.Wraps
import Derived.Shelf.Sort.Plain
import Derived.Shelf.Bits.Mul64
import Derived.Shelf.Slices.Equal
import Derived.Ground.Names2Prog
import Derived.Shelf.Slices.Clone
import Derived.Shelf.Slices.CompactI
import Derived.Shelf.Slices.Empties2
import Derived.Ground.SlgnProg
import Derived.Shelf.SlicesE.Clone
import Derived.Shelf.SlSortCmp.WholeK
import Derived.Ground.SlsfProg
import Derived.Test.YtkkaikcjcjkpbaaGreatProg
import Derived.Shelf.RegionOpenPlain
import Derived.WalkKit
import Derived.Deep.LoopGhost
import Derived.Lib.Walk
import Derived.Shelf.Spec.SlicesInsert
import Derived.Lib.SlicesCompact
import Derived.KernelRfl
import Derived.Laws.CopyRow
import Derived.Shelf.GgSortFunc.Compose
import Derived.Sort.WalkA
import Derived.Sort.WalkC
import Derived.Sort.WalkB12
import Derived.Deep.QuietTactic
import Derived.BigQuiet
import Derived.BigRegion
import Derived.Shelf.SlicesE.Kit
set_option linter.unusedVariables false
set_option linter.unusedSimpArgs false
/-! Srw -/
namespace Ovi
open Go Go.Proofs Go.RowKit Go.Sort Go.Lib Go.Shelf
/-- the shelf's law pays it, the comparison's contract given -/
theorem sortF_run {P : Program} {ρ : Ren} (L : SlLaysF.n6 P ρ) {g : FuncId} (eg : ∀ args w, (callFunc g args).run P w = .ok (.enter g args) w) (hC : CmpC P g) (w : World) (S : Nat → Prop) (blk cap : Nat) (d : Array (HdL w S)) (hS : ∀ k, S k → k < w.heap.size) (hn : ¬ S blk) (hH : Holds encH w blk 0 d) (hb : blk < w.heap.size) (hsz : d.size < 4611686018427387904) :
    Calls P (ρ.f 6) #[.slice (some ⟨blk, 0, none⟩) d.size cap, .func (.func g) #[] #[]] w fun e w' => e = .returned (.tuple #[]) ∧ ∃ (d' : Array (HdL w S)) (n : Nat) (os : Array Obj), PermIn 0 d.size d d' ∧ SortedIn (ltOf cmpH) 0 d.size d' ∧ w' = sortWorld encH w blk 0 n d' os :=
  Any.slices_SortFunc L encH (fun x => by
    obtain ⟨v, l, ⟨A, c, rfl, _⟩, _⟩ := x
    rfl) cmpH swoH g #[] blk 0 cap d w eg (fun m os dk hs x y => by
    have := hC (sortWorld encH w blk 0 m dk os) S (encH x) (encH y) (lstH x) (lstH y) (x.h.stab (stabS dk hS hn)) (y.h.stab (stabS dk hS hn)) x.b y.b
    exact this) hH hb hsz
end Ovi

/-! VSh -/
/-
  DERIVED: THE SHELF's CONTRACTS AT THIS DUMP, IN PLAIN WORDS (tools/lay-plain.mjs out of 'TryzVShelf.lean', which tools/lay-shelf.mjs wrote): THE SAME DECLARATIONS UNDER THE SAME NAMES: 'import', 'namespace', 'open', 'def', 'theorem' AND NOTHING ELSE: no command of the shelf's: FOR A HAND-IN. Each laying: the table of numbers ('.._ren') and one theorem, a field a fact of the dump's own or the kernel's comparison; each contract: ONE APPLICATION.
-/
namespace Go.Proofs
open Go.Shelf
def Tryz.lays122_ren : Go.Shelf.Ren := ⟨fun | 122 => 122 | 215 => 146 | n => n, fun | 3 => 3 | 4 => 4 | n => n, fun | n => n⟩
theorem Tryz.lays122 : Go.Proofs.Lays.n122 Tryz.prog Tryz.lays122_ren := {
  mixed := by kernel_rfl
  f122 := Tryz.func122.trans (congrArg some (by kernel_rfl))
  f215 := Tryz.func146.trans (congrArg some (by kernel_rfl))
  t3 := Tryz.underlying3
  a3 := Tryz.isAgg3
  z3 := Tryz.sizeOf3
  v3 := Tryz.zeroValue3
  t4 := Tryz.underlying4
  a4 := Tryz.isAgg4
  z4 := Tryz.sizeOf4
  v4 := Tryz.zeroValue4 }
def Tryz.lays189_ren : Go.Shelf.Ren := ⟨fun | 189 => 147 | 125 => 159 | 257 => 162 | 128 => 176 | 129 => 177 | 294 => 182 | 295 => 183 | 296 => 184 | 297 => 185 | 298 => 186 | 299 => 187 | 216 => 188 | 300 => 189 | 301 => 190 | 328 => 199 | 329 => 193 | 330 => 194 | 331 => 200 | 332 => 201 | 215 => 146 | 343 => 205 | n => n, fun | 28 => 74 | 3 => 3 | 46 => 173 | 0 => 0 | 51 => 187 | 53 => 189 | 4 => 4 | 183 => 181 | 182 => 180 | 131 => 113 | 5 => 5 | 9 => 9 | 218 => 199 | 222 => 203 | 228 => 210 | 229 => 211 | n => n, fun | n => n⟩
theorem Tryz.lays189 : Go.Proofs.Lays.n189 Tryz.prog Tryz.lays189_ren := {
  mixed := by kernel_rfl
  f125 := Tryz.func159.trans (congrArg some (by kernel_rfl))
  f128 := Tryz.func176.trans (congrArg some (by kernel_rfl))
  f129 := Tryz.func177.trans (congrArg some (by kernel_rfl))
  f189 := Tryz.func147.trans (congrArg some (by kernel_rfl))
  f215 := Tryz.func146.trans (congrArg some (by kernel_rfl))
  f216 := Tryz.func188.trans (congrArg some (by kernel_rfl))
  f257 := Tryz.func162.trans (congrArg some (by kernel_rfl))
  f294 := Tryz.func182.trans (congrArg some (by kernel_rfl))
  f295 := Tryz.func183.trans (congrArg some (by kernel_rfl))
  f296 := Tryz.func184.trans (congrArg some (by kernel_rfl))
  f297 := Tryz.func185.trans (congrArg some (by kernel_rfl))
  f298 := Tryz.func186.trans (congrArg some (by kernel_rfl))
  f299 := Tryz.func187.trans (congrArg some (by kernel_rfl))
  f300 := Tryz.func189.trans (congrArg some (by kernel_rfl))
  f301 := Tryz.func190.trans (congrArg some (by kernel_rfl))
  f328 := Tryz.func199.trans (congrArg some (by kernel_rfl))
  f329 := Tryz.func193.trans (congrArg some (by kernel_rfl))
  f330 := Tryz.func194.trans (congrArg some (by kernel_rfl))
  f331 := Tryz.func200.trans (congrArg some (by kernel_rfl))
  f332 := Tryz.func201.trans (congrArg some (by kernel_rfl))
  f343 := Tryz.func205.trans (congrArg some (by kernel_rfl))
  t0 := Tryz.underlying0
  a0 := Tryz.isAgg0
  z0 := Tryz.sizeOf0
  v0 := Tryz.zeroValue0
  t3 := Tryz.underlying3
  a3 := Tryz.isAgg3
  z3 := Tryz.sizeOf3
  v3 := Tryz.zeroValue3
  t4 := Tryz.underlying4
  a4 := Tryz.isAgg4
  z4 := Tryz.sizeOf4
  v4 := Tryz.zeroValue4
  t5 := Tryz.underlying5
  a5 := Tryz.isAgg5
  z5 := Tryz.sizeOf5
  v5 := Tryz.zeroValue5
  t9 := Tryz.underlying9
  a9 := Tryz.isAgg9
  z9 := Tryz.sizeOf9
  v9 := Tryz.zeroValue9
  t28 := Tryz.underlying74
  a28 := Tryz.isAgg74
  z28 := Tryz.sizeOf74
  v28 := Tryz.zeroValue74
  t46 := Tryz.underlying173
  a46 := Tryz.isAgg173
  z46 := Tryz.sizeOf173
  v46 := Tryz.zeroValue173
  t51 := Tryz.underlying187
  a51 := Tryz.isAgg187
  z51 := Tryz.sizeOf187
  v51 := Tryz.zeroValue187
  t53 := Tryz.underlying189
  a53 := Tryz.isAgg189
  z53 := Tryz.sizeOf189
  v53 := Tryz.zeroValue189
  t131 := Tryz.underlying113
  a131 := Tryz.isAgg113
  z131 := Tryz.sizeOf113
  v131 := Tryz.zeroValue113
  t182 := Tryz.underlying180
  a182 := Tryz.isAgg180
  z182 := Tryz.sizeOf180
  v182 := Tryz.zeroValue180
  t183 := Tryz.underlying181
  a183 := Tryz.isAgg181
  z183 := Tryz.sizeOf181
  v183 := Tryz.zeroValue181
  t218 := Tryz.underlying199
  a218 := Tryz.isAgg199
  z218 := Tryz.sizeOf199
  v218 := Tryz.zeroValue199
  t222 := Tryz.underlying203
  a222 := Tryz.isAgg203
  z222 := Tryz.sizeOf203
  v222 := Tryz.zeroValue203
  t228 := Tryz.underlying210
  a228 := Tryz.isAgg210
  z228 := Tryz.sizeOf210
  v228 := Tryz.zeroValue210
  t229 := Tryz.underlying211
  a229 := Tryz.isAgg211
  z229 := Tryz.sizeOf211
  v229 := Tryz.zeroValue211 }
def Tryz.lays264_ren : Go.Shelf.Ren := ⟨fun | 264 => 204 | n => n, fun | 53 => 189 | 46 => 173 | n => n, fun | n => n⟩
theorem Tryz.lays264 : Go.Proofs.Lays.n264 Tryz.prog Tryz.lays264_ren := {
  mixed := by kernel_rfl
  f264 := Tryz.func204.trans (congrArg some (by kernel_rfl))
  t46 := Tryz.underlying173
  a46 := Tryz.isAgg173
  z46 := Tryz.sizeOf173
  v46 := Tryz.zeroValue173
  t53 := Tryz.underlying189
  a53 := Tryz.isAgg189
  z53 := Tryz.sizeOf189
  v53 := Tryz.zeroValue189 }
def Tryz.lays212_ren : Go.Shelf.Ren := ⟨fun | 212 => 197 | 263 => 203 | 264 => 204 | n => n, fun | 46 => 173 | 51 => 187 | 146 => 213 | 53 => 189 | 148 => 215 | n => n, fun | n => n⟩
theorem Tryz.lays212 : Go.Proofs.Lays.n212 Tryz.prog Tryz.lays212_ren := {
  mixed := by kernel_rfl
  f212 := Tryz.func197.trans (congrArg some (by kernel_rfl))
  f263 := Tryz.func203.trans (congrArg some (by kernel_rfl))
  f264 := Tryz.func204.trans (congrArg some (by kernel_rfl))
  t46 := Tryz.underlying173
  a46 := Tryz.isAgg173
  z46 := Tryz.sizeOf173
  v46 := Tryz.zeroValue173
  t51 := Tryz.underlying187
  a51 := Tryz.isAgg187
  z51 := Tryz.sizeOf187
  v51 := Tryz.zeroValue187
  t53 := Tryz.underlying189
  a53 := Tryz.isAgg189
  z53 := Tryz.sizeOf189
  v53 := Tryz.zeroValue189
  t146 := Tryz.underlying213
  a146 := Tryz.isAgg213
  z146 := Tryz.sizeOf213
  v146 := Tryz.zeroValue213
  t148 := Tryz.underlying215
  a148 := Tryz.isAgg215
  z148 := Tryz.sizeOf215
  v148 := Tryz.zeroValue215 }
def Tryz.lays111_ren : Go.Shelf.Ren := ⟨fun | 111 => 181 | n => n, fun | 28 => 74 | 3 => 3 | 4 => 4 | 0 => 0 | n => n, fun | n => n⟩
theorem Tryz.lays111 : Go.Proofs.Lays.n111 Tryz.prog Tryz.lays111_ren := {
  mixed := by kernel_rfl
  f111 := Tryz.func181.trans (congrArg some (by kernel_rfl))
  t0 := Tryz.underlying0
  a0 := Tryz.isAgg0
  z0 := Tryz.sizeOf0
  v0 := Tryz.zeroValue0
  t3 := Tryz.underlying3
  a3 := Tryz.isAgg3
  z3 := Tryz.sizeOf3
  v3 := Tryz.zeroValue3
  t4 := Tryz.underlying4
  a4 := Tryz.isAgg4
  z4 := Tryz.sizeOf4
  v4 := Tryz.zeroValue4
  t28 := Tryz.underlying74
  a28 := Tryz.isAgg74
  z28 := Tryz.sizeOf74
  v28 := Tryz.zeroValue74 }
def Tryz.laysNm215_ren : Go.Shelf.Ren := ⟨fun | 15 => 94 | n => n, fun | 22 => 74 | 3 => 3 | 4 => 4 | n => n, fun | n => n⟩
theorem Tryz.laysNm215 : Go.Proofs.Lays2.n15 Tryz.prog Tryz.laysNm215_ren := {
  mixed := by kernel_rfl
  f15 := Tryz.func94.trans (congrArg some (by kernel_rfl))
  t3 := Tryz.underlying3
  a3 := Tryz.isAgg3
  z3 := Tryz.sizeOf3
  v3 := Tryz.zeroValue3
  t4 := Tryz.underlying4
  a4 := Tryz.isAgg4
  z4 := Tryz.sizeOf4
  v4 := Tryz.zeroValue4
  t22 := Tryz.underlying74
  a22 := Tryz.isAgg74
  z22 := Tryz.sizeOf74
  v22 := Tryz.zeroValue74
  i3 := by kernel_rfl }
def Tryz.laysNm220_ren : Go.Shelf.Ren := ⟨fun | 20 => 148 | n => n, fun | 22 => 74 | 3 => 3 | 4 => 4 | 0 => 0 | n => n, fun | n => n⟩
theorem Tryz.laysNm220 : Go.Proofs.Lays2.n20 Tryz.prog Tryz.laysNm220_ren := {
  mixed := by kernel_rfl
  f20 := Tryz.func148.trans (congrArg some (by kernel_rfl))
  t0 := Tryz.underlying0
  a0 := Tryz.isAgg0
  z0 := Tryz.sizeOf0
  v0 := Tryz.zeroValue0
  t3 := Tryz.underlying3
  a3 := Tryz.isAgg3
  z3 := Tryz.sizeOf3
  v3 := Tryz.zeroValue3
  t4 := Tryz.underlying4
  a4 := Tryz.isAgg4
  z4 := Tryz.sizeOf4
  v4 := Tryz.zeroValue4
  t22 := Tryz.underlying74
  a22 := Tryz.isAgg74
  z22 := Tryz.sizeOf74
  v22 := Tryz.zeroValue74
  i3 := by kernel_rfl }
def Tryz.laysSlF06_f139_ren : Go.Shelf.Ren := ⟨fun | 6 => 139 | 15 => 159 | 14 => 158 | 28 => 176 | 29 => 177 | 20 => 168 | 21 => 169 | 22 => 170 | 23 => 171 | 24 => 172 | 25 => 173 | 26 => 174 | 27 => 175 | 46 => 192 | 47 => 193 | 48 => 194 | 49 => 195 | 50 => 196 | 57 => 202 | n => n, fun | 22 => 35 | 24 => 90 | 25 => 89 | 3 => 3 | 39 => 173 | 0 => 0 | 53 => 187 | 55 => 189 | 4 => 4 | 46 => 181 | 45 => 180 | 50 => 113 | 5 => 5 | 9 => 9 | 66 => 199 | 70 => 203 | 76 => 210 | 77 => 211 | n => n, fun | n => n⟩
theorem Tryz.laysSlF06_f139 : Go.Proofs.SlLaysF0.n6 Tryz.prog Tryz.laysSlF06_f139_ren := {
  mixed := by kernel_rfl
  f6 := ⟨Tryz.f139.name, by decide, Tryz.func139.trans (congrArg some (by kernel_rfl))⟩
  f14 := ⟨Tryz.f158.name, by decide, Tryz.func158.trans (congrArg some (by kernel_rfl))⟩
  f15 := Tryz.func159.trans (congrArg some (by kernel_rfl))
  f20 := ⟨Tryz.f168.name, by decide, Tryz.func168.trans (congrArg some (by kernel_rfl))⟩
  f21 := ⟨Tryz.f169.name, by decide, Tryz.func169.trans (congrArg some (by kernel_rfl))⟩
  f22 := ⟨Tryz.f170.name, by decide, Tryz.func170.trans (congrArg some (by kernel_rfl))⟩
  f23 := ⟨Tryz.f171.name, by decide, Tryz.func171.trans (congrArg some (by kernel_rfl))⟩
  f24 := ⟨Tryz.f172.name, by decide, Tryz.func172.trans (congrArg some (by kernel_rfl))⟩
  f25 := ⟨Tryz.f173.name, by decide, Tryz.func173.trans (congrArg some (by kernel_rfl))⟩
  f26 := ⟨Tryz.f174.name, by decide, Tryz.func174.trans (congrArg some (by kernel_rfl))⟩
  f27 := ⟨Tryz.f175.name, by decide, Tryz.func175.trans (congrArg some (by kernel_rfl))⟩
  f28 := Tryz.func176.trans (congrArg some (by kernel_rfl))
  f29 := Tryz.func177.trans (congrArg some (by kernel_rfl))
  f46 := ⟨Tryz.f192.name, by decide, Tryz.func192.trans (congrArg some (by kernel_rfl))⟩
  f47 := Tryz.func193.trans (congrArg some (by kernel_rfl))
  f48 := Tryz.func194.trans (congrArg some (by kernel_rfl))
  f49 := ⟨Tryz.f195.name, by decide, Tryz.func195.trans (congrArg some (by kernel_rfl))⟩
  f50 := ⟨Tryz.f196.name, by decide, Tryz.func196.trans (congrArg some (by kernel_rfl))⟩
  f57 := ⟨Tryz.f202.name, by decide, Tryz.func202.trans (congrArg some (by kernel_rfl))⟩
  t0 := Tryz.underlying0
  a0 := Tryz.isAgg0
  z0 := Tryz.sizeOf0
  v0 := Tryz.zeroValue0
  t3 := Tryz.underlying3
  a3 := Tryz.isAgg3
  z3 := Tryz.sizeOf3
  v3 := Tryz.zeroValue3
  t4 := Tryz.underlying4
  a4 := Tryz.isAgg4
  z4 := Tryz.sizeOf4
  v4 := Tryz.zeroValue4
  t5 := Tryz.underlying5
  a5 := Tryz.isAgg5
  z5 := Tryz.sizeOf5
  v5 := Tryz.zeroValue5
  t9 := Tryz.underlying9
  a9 := Tryz.isAgg9
  z9 := Tryz.sizeOf9
  v9 := Tryz.zeroValue9
  t22 := Tryz.underlying35
  a22 := Tryz.isAgg35
  z22 := Tryz.sizeOf35
  v22 := Tryz.zeroValue35
  t25 := Tryz.underlying89
  a25 := Tryz.isAgg89
  z25 := Tryz.sizeOf89
  v25 := Tryz.zeroValue89
  t39 := Tryz.underlying173
  a39 := Tryz.isAgg173
  z39 := Tryz.sizeOf173
  v39 := Tryz.zeroValue173
  t45 := Tryz.underlying180
  a45 := Tryz.isAgg180
  z45 := Tryz.sizeOf180
  v45 := Tryz.zeroValue180
  t46 := Tryz.underlying181
  a46 := Tryz.isAgg181
  z46 := Tryz.sizeOf181
  v46 := Tryz.zeroValue181
  t50 := Tryz.underlying113
  a50 := Tryz.isAgg113
  z50 := Tryz.sizeOf113
  v50 := Tryz.zeroValue113
  t53 := Tryz.underlying187
  a53 := Tryz.isAgg187
  z53 := Tryz.sizeOf187
  v53 := Tryz.zeroValue187
  t55 := Tryz.underlying189
  a55 := Tryz.isAgg189
  z55 := Tryz.sizeOf189
  v55 := Tryz.zeroValue189
  t66 := Tryz.underlying199
  a66 := Tryz.isAgg199
  z66 := Tryz.sizeOf199
  v66 := Tryz.zeroValue199
  t70 := Tryz.underlying203
  a70 := Tryz.isAgg203
  z70 := Tryz.sizeOf203
  v70 := Tryz.zeroValue203
  t76 := Tryz.underlying210
  a76 := Tryz.isAgg210
  z76 := Tryz.sizeOf210
  v76 := Tryz.zeroValue210
  t77 := Tryz.underlying211
  a77 := Tryz.isAgg211
  z77 := Tryz.sizeOf211
  v77 := Tryz.zeroValue211 }
def Tryz.laysSlE041_f90_ren : Go.Shelf.Ren := ⟨fun | 41 => 90 | n => n, fun | 22 => 34 | 23 => 93 | 4 => 4 | n => n, fun | n => n⟩
theorem Tryz.laysSlE041_f90 : Go.Proofs.SlLaysE0.n41 Tryz.prog Tryz.laysSlE041_f90_ren := {
  mixed := by kernel_rfl
  f41 := ⟨Tryz.f90.name, by decide, Tryz.func90.trans (congrArg some (by kernel_rfl))⟩
  t4 := Tryz.underlying4
  a4 := Tryz.isAgg4
  z4 := Tryz.sizeOf4
  v4 := Tryz.zeroValue4
  t22 := Tryz.underlying34
  a22 := Tryz.isAgg34
  z22 := Tryz.sizeOf34
  v22 := Tryz.zeroValue34 }
end Go.Proofs

/-! VCm -/
namespace Go.Proofs
open Go.Shelf Go.RowKit Go.Lib Go.Sort Ovi
set_option maxHeartbeats 2000000 in
set_option maxRecDepth 1000000 in
theorem Tryz.cmp_both (b o c b' o' c' : Nat) (xs ys : List Int) (w : World) (hl : xs.length < 4611686018427387904) (hl' : ys.length < 4611686018427387904)
    (hx : ∀ (i : Nat) z, xs[i]? = some z → w.cell? ⟨b, o + i, none⟩ = some (.int .i64 z)) (hy : ∀ (i : Nat) z, ys[i]? = some z → w.cell? ⟨b', o' + i, none⟩ = some (.int .i64 z)) :
    Calls Tryz.prog 123 #[.slice (some ⟨b, o, none⟩) xs.length c, .slice (some ⟨b', o', none⟩) ys.length c'] w fun e w' => e = .returned (.int .i64 (cmpL xs ys)) ∧ w' = w := by
  go_enter Tryz.func123, Tryz.ntmps123
  go_wp2
  go_loop [11] (fun i => ∃ k : Nat, k ≤ xs.length ∧ k ≤ ys.length ∧ i = .int .i64 k ∧ Hid (cmpL xs ys = cmpL (xs.drop k) (ys.drop k))) (fun i => xs.length - (intOf i).toNat)
  case atStart => exact ⟨0, Nat.zero_le _, Nat.zero_le _, rfl, rfl⟩
  case round =>
    obtain ⟨k, hk, hk', rfl, H⟩ := hrel
    by_cases hlt : k < xs.length
    · by_cases hlt' : k < ys.length
      · have g1 := hx k _ (List.getElem?_eq_getElem hlt)
        have g2 := hy k _ (List.getElem?_eq_getElem hlt')
        have D : Hid (cmpL (xs.drop k) (ys.drop k) = if xs[k] < ys[k] then -1 else if xs[k] > ys[k] then 1 else cmpL (xs.drop (k + 1)) (ys.drop (k + 1))) := by
          show _ = _
          rw [List.drop_eq_getElem_cons hlt, List.drop_eq_getElem_cons hlt']
          rfl
        clear hx hy
        have hcon := Any.cmp_Compare_int Tryz.lays122 xs[k] ys[k] w
        change Calls Tryz.prog 122 _ _ _ at hcon
        have E : Hid (Lib.compareInt xs[k] ys[k] = if xs[k] < ys[k] then -1 else if xs[k] > ys[k] then 1 else 0) := by
          show _ = _
          unfold Lib.compareInt
          rfl
        generalize hr : Lib.compareInt xs[k] ys[k] = r at hcon E
        clear hr
        generalize xs[k] = x at *
        generalize ys[k] = y at *
        by_cases hr0 : r = 0
        · subst hr0
          go_wp2_with (go_at_call 122; refine hcon.mono ?_; rintro e w' ⟨rfl, rfl⟩)
          go_round
          case rel =>
            refine ⟨k + 1, by omega, by omega, by go_num, ?_⟩
            show _ = _
            have h1 := E.out
            have h2 := D.out
            rw [H.out, h2]
            by_cases q1 : x < y
            · rw [if_pos q1] at h1; omega
            · rw [if_neg q1] at h1 ⊢
              by_cases q2 : x > y
              · rw [if_pos q2] at h1; omega
              · rw [if_neg q2]
          case measure => simp [intOf]; omega
        · go_wp2_with (go_at_call 122; refine hcon.mono ?_; rintro e w' ⟨rfl, rfl⟩)
          go_ret
          refine ⟨?_, rfl⟩
          show Ending.returned (Value.int .i64 r) = Ending.returned (Value.int .i64 (cmpL xs ys))
          have h1 := E.out
          have h2 := D.out
          rw [H.out, h2]
          by_cases q1 : x < y
          · rw [if_pos q1] at h1 ⊢; rw [h1]
          · rw [if_neg q1] at h1 ⊢
            by_cases q2 : x > y
            · rw [if_pos q2] at h1 ⊢; rw [h1]
            · rw [if_neg q2] at h1; exact absurd h1 hr0
      · obtain rfl : k = ys.length := by omega
        have g1 := hx ys.length _ (List.getElem?_eq_getElem hlt)
        have D : Hid (cmpL xs ys = 1) := by
          show _ = _
          rw [H.out, List.drop_length, List.drop_eq_getElem_cons hlt]
          rfl
        clear hx hy H
        generalize xs[ys.length] = x at g1
        go_wp2
        go_ret
        refine ⟨?_, rfl⟩
        show Ending.returned (Value.int .i64 1) = Ending.returned (Value.int .i64 (cmpL xs ys))
        rw [D.out]
    · clear hx hy
      obtain rfl : k = xs.length := by omega
      by_cases hlen : xs.length < ys.length
      · go_wp2
        go_ret
        refine ⟨?_, rfl⟩
        rw [H.out, List.drop_length, List.drop_eq_getElem_cons hlen]
        rfl
      · go_wp2
        go_ret
        refine ⟨?_, rfl⟩
        rw [H.out, List.drop_length, List.drop_of_length_le (by omega)]
        rfl
set_option maxHeartbeats 2000000 in
set_option maxRecDepth 1000000 in
theorem Tryz.cmp_nil (A A' : Option Addr) (c n c' : Nat) (w : World) :
    Calls Tryz.prog 123 #[.slice A 0 c, .slice A' n c'] w fun e w' => e = .returned (.int .i64 (if 0 < n then -1 else 0)) ∧ w' = w := by
  by_cases hn : 0 < n
  · rw [if_pos hn]
    go_enter Tryz.func123, Tryz.ntmps123
    go_wp2
    go_loop [11] (fun i => i = .int .i64 0) (fun _ => 0)
    case atStart => rfl
    case round =>
      subst hrel
      go_wp2
      go_ret
      exact ⟨rfl, rfl⟩
  · rw [if_neg hn]
    obtain rfl : n = 0 := by omega
    go_enter Tryz.func123, Tryz.ntmps123
    go_wp2
    go_loop [11] (fun i => i = .int .i64 0) (fun _ => 0)
    case atStart => rfl
    case round =>
      subst hrel
      go_wp2
      go_ret
      exact ⟨rfl, rfl⟩
set_option maxHeartbeats 2000000 in
set_option maxRecDepth 1000000 in
theorem Tryz.cmp_one (b o c n c' : Nat) (A' : Option Addr) (x : Int) (w : World) (hn : 0 < n) (hx : w.cell? ⟨b, o, none⟩ = some (.int .i64 x)) :
    Calls Tryz.prog 123 #[.slice (some ⟨b, o, none⟩) n c, .slice A' 0 c'] w fun e w' => e = .returned (.int .i64 1) ∧ w' = w := by
  go_enter Tryz.func123, Tryz.ntmps123
  go_wp2
  go_loop [11] (fun i => i = .int .i64 0) (fun _ => 0)
  case atStart => rfl
  case round =>
    subst hrel
    go_wp2
    go_ret
    exact ⟨rfl, rfl⟩
end Go.Proofs

/-! VEq -/
namespace Go.Proofs
open Go.Shelf Go.RowKit Go.Lib Go.Sort Ovi
/-- a list that is not empty lies in cells -/
theorem RI_addr {w : World} {S : Nat → Prop} {zs : List Int} {B : Option Addr} (hne : zs ≠ []) (h : ∀ (i : Nat) z, zs[i]? = some z → ∃ ad, B = some ad ∧ S ad.block ∧ w.cell? (ad.add i) = some (.int .i64 z)) : ∃ b o, B = some ⟨b, o, none⟩ ∧ ∀ (i : Nat) z, zs[i]? = some z → w.cell? ⟨b, o + i, none⟩ = some (.int .i64 z) := by
  cases zs with
  | nil => exact absurd rfl hne
  | cons z0 zs =>
    obtain ⟨ad, e, _, h0⟩ := h 0 z0 rfl
    obtain ⟨b, o, spot⟩ := ad
    have hspot : spot = none := by simpa [Addr.add] using World.cell?_spot h0
    subst hspot
    refine ⟨b, o, e, fun i z hz => ?_⟩
    obtain ⟨ad', e', _, hi⟩ := h i z hz
    rw [e] at e'
    cases e'
    rwa [Ovi.add_at] at hi
theorem cells_getD {w : World} {b o : Nat} {zs : List Int} (h : ∀ (i : Nat) z, zs[i]? = some z → w.cell? ⟨b, o + i, none⟩ = some (.int .i64 z)) : ∀ j, j < zs.length → w.cell? ⟨b, o + j, none⟩ = some (.int .i64 (zs.getD j 0)) := by
  intro j hj
  have hg := List.getElem?_eq_getElem hj
  rw [h j _ hg, List.getD_eq_getElem?_getD, hg]
  rfl
/-- slices.Equal's contract at lists that are read -/
theorem Tryz.eqC : EqC Tryz.prog 181 := by
  intro w S u v xs ys ⟨A, c, hu, hc, hx⟩ ⟨A', c', hv, hc', hy⟩ hxl hyl
  subst hu hv
  have fin : ∀ {z z' : Bool}, z = z' → ∀ {vs : Array Value}, (Calls Tryz.prog 181 vs w fun e w' => e = .returned (.bool z) ∧ w' = w) → Calls Tryz.prog 181 vs w fun e w' => e = .returned (.bool z') ∧ ∃ q, w' = w.drewN q := by
    intro z z' hz vs h
    subst hz
    exact h.mono fun e w' ⟨h1, h2⟩ => ⟨h1, 0, by rw [h2]; rfl⟩
  by_cases hlen : xs.length = ys.length
  · by_cases hx0 : xs = []
    · subst hx0
      have hy0 : ys = [] := List.eq_nil_of_length_eq_zero hlen.symm
      subst hy0
      exact fin rfl (Any.slices_Equal_int_empty Tryz.lays111 A A' c 0 c' w (by omega))
    · have hy0 : ys ≠ [] := fun e => hx0 (List.eq_nil_of_length_eq_zero (by rw [hlen, e]; rfl))
      obtain ⟨b, o, rfl, hx1⟩ := RI_addr hx0 hx
      obtain ⟨b', o', rfl, hy1⟩ := RI_addr hy0 hy
      refine (Any.slices_Equal_int Tryz.lays111 b o xs.length c b' o' ys.length c' xs ys w (Nat.le_refl _) (Nat.le_refl _) (by omega) (by omega) (cells_getD hx1) (cells_getD hy1)).mono fun e w' ⟨h1, h2⟩ => ⟨?_, h2⟩
      rw [h1, List.take_length, List.take_length]
      exact congrArg _ (congrArg _ (Bool.eq_iff_iff.2 (by simp)))
  · exact fin (decide_eq_false (fun e => hlen (by rw [e]))).symm (Any.slices_Equal_int_lens Tryz.lays111 A A' xs.length c ys.length c' w hlen)
end Go.Proofs

/-! VRp -/
namespace Go.Proofs
open Go.Shelf Go.RowKit Go.Lib Go.Sort
theorem alloc_setRow (w : World) (q : Nat) (c c' : Array Value) (t : TypeId) : ((w.alloc (.cells c t (0, 0))).drewN q).setRow w.heap.size c' = (w.alloc (.cells c' t (0, 0))).drewN q := by
  unfold World.setRow World.alloc World.drewN
  simp only [World.mk.injEq, and_true, true_and]
  apply Array.ext_getElem?
  intro i
  rw [Array.getElem?_modify, Array.getElem?_push, Array.getElem?_push]
  by_cases h : i = w.heap.size
  · subst h; simp
  · rw [if_neg (fun e => h e.symm), if_neg h, if_neg h]
/-- the row while it is filled -/
def rep5 (n : Nat) : Array Value := ((List.replicate n (Value.int .i64 10)) ++ (List.replicate (5 - n) (Value.int .i64 0))).toArray
theorem rep5_size {n : Nat} (h : n ≤ 5) : (rep5 n).size = 5 := by simp [rep5]; omega
theorem rep5_cell {w : World} {n q j : Nat} (h : j < n) (hn : n ≤ 5) : ((w.alloc (.cells (rep5 n) 3 (0, 0))).drewN q).cell? ⟨w.heap.size, j, none⟩ = some (.int .i64 10) := by
  have hg : (w.alloc (.cells (rep5 n) 3 (0, 0))).heap[w.heap.size]? = some (.cells (rep5 n) 3 (0, 0)) := by
    show (w.heap.push _)[w.heap.size]? = _
    simp
  simp only [World.cell?, World.heap_drewN, hg, Option.isSome_none, Bool.false_eq_true, if_false]
  unfold rep5
  rw [List.getElem?_toArray, List.getElem?_append_left (by simpa using h), List.getElem?_replicate, if_pos h]
theorem rep5_copy (w : World) (n m q : Nat) (a : Addr) (sl sc dc : Nat) (ty : TypeId) (hn : n + m ≤ 5) (hm : Nat.min sl (5 - n) = m) (ha : ∀ j, j < m → ((w.alloc (.cells (rep5 n) 3 (0, 0))).drewN q).cell? (a.add j) = some (.int .i64 10)) :
    (Builtin.copy_ #[74, 74] ty #[.slice (some ⟨w.heap.size, n, none⟩) (5 - n) dc, .slice (some a) sl sc]).run Tryz.prog ((w.alloc (.cells (rep5 n) 3 (0, 0))).drewN q) = .ok (goInt m) ((w.alloc (.cells (rep5 (n + m)) 3 (0, 0))).drewN q) := by
  have := run_copy_row (P := Tryz.prog) ((w.alloc (.cells (rep5 n) 3 (0, 0))).drewN q) 74 74 ty 3 w.heap.size n (5 - n) dc a sl sc (rep5 n) 3 (List.replicate m (.int .i64 10)) (by kernel_rfl) (by kernel_rfl) (by show (w.heap.push _)[w.heap.size]? = _; simp) (by rw [List.length_replicate, hm])
    (fun j v hj => by
      obtain ⟨h1, h2⟩ := List.getElem?_eq_some_iff.1 hj
      rw [List.length_replicate] at h1
      rw [ha j h1, ← h2]; simp) (by rw [List.length_replicate, rep5_size (by omega)]; omega) (fun v hv => by rw [List.eq_of_mem_replicate hv]; rfl)
  have e : ((rep5 n).toList.take n ++ List.replicate m (Value.int .i64 10) ++ (rep5 n).toList.drop (n + (List.replicate m (Value.int .i64 10)).length)).toArray = rep5 (n + m) := by
    unfold rep5
    apply Array.toList_inj.1
    simp only [List.length_replicate]
    rw [List.take_left' (by simp), List.drop_append, List.drop_eq_nil_of_le (by simp), List.nil_append, List.length_replicate, List.drop_replicate, List.replicate_append_replicate, show 5 - n - (n + m - n) = 5 - (n + m) by omega]
  rw [this, List.length_replicate, alloc_setRow]
  rw [List.length_replicate] at e
  rw [e]
set_option maxHeartbeats 4000000 in
set_option maxRecDepth 1000000 in
theorem Tryz.repeat_walk (b o c : Nat) (w : World) (hx : w.cell? ⟨b, o, none⟩ = some (.int .i64 10)) (hb : b < w.heap.size) :
    Calls Tryz.prog 178 #[.slice (some ⟨b, o, none⟩) 1 c, .int .i64 5] w fun e w' => e = .returned (.slice (some ⟨w.heap.size, 0, none⟩) 5 5) ∧ ∃ q, w' = (w.alloc (.cells #[.int .i64 10, .int .i64 10, .int .i64 10, .int .i64 10, .int .i64 10] 3 (0, 0))).drewN q := by
  have mixed : Tryz.prog.follows .mixedOrders = true := by kernel_rfl
  have hmul : Calls Tryz.prog 197 #[.int .u64 1, .int .u64 5] w fun e w' => e = .returned (.tuple #[.int .u64 0, .int .u64 5]) ∧ w' = w := by
    have := Any.bits_Mul Tryz.lays212 1 5 (by omega) (by omega) w
    change Calls Tryz.prog 197 _ _ _ at this
    simpa using this
  have hmk : ∀ W : World, (Instr.makeSlice 74 (.int .i64 5) (.int .i64 5)).run Tryz.prog W = .ok (.slice (some ⟨W.heap.size, 0, none⟩) 5 5) (W.alloc (.cells #[.int .i64 0, .int .i64 0, .int .i64 0, .int .i64 0, .int .i64 0] 3 (0, 0))) := fun W => by kernel_rfl
  have hcp0 : ∀ ty, (Builtin.copy_ #[74, 74] ty #[.slice (some ⟨w.heap.size, 0, none⟩) 5 5, .slice (some ⟨b, o, none⟩) 1 c]).run Tryz.prog (w.alloc (.cells #[.int .i64 0, .int .i64 0, .int .i64 0, .int .i64 0, .int .i64 0] 3 (0, 0))) = .ok (.int .i64 1) ((w.alloc (.cells (rep5 1) 3 (0, 0))).drewN 0) := fun ty =>
    rep5_copy w 0 1 0 ⟨b, o, none⟩ 1 c 5 ty (by omega) rfl (fun j hj => by
      obtain rfl : j = 0 := by omega
      have : (w.alloc (.cells (rep5 0) 3 (0, 0))).cell? ⟨b, o, none⟩ = some (.int .i64 10) := by
        rw [← hx]
        unfold World.cell?
        rw [show (w.alloc (.cells (rep5 0) 3 (0, 0))).heap[b]? = w.heap[b]? from Below.heap_alloc w _ b hb]
      simpa [Addr.add] using this)
  go_enter Tryz.func178, Tryz.ntmps178
  go_wp2_with (go_at_call 197; refine hmul.mono ?_; rintro e w' ⟨rfl, rfl⟩)
  go_loopg [8] 5 (fun g s8 wr => ∃ n q : Nat, (n = 1 ∨ n = 2 ∨ n = 4 ∨ n = 5) ∧ 5 - n ≤ g ∧ s8 = .int .i64 n ∧ wr = (w'.alloc (.cells (rep5 n) 3 (0, 0))).drewN q)
  case atStart => exact ⟨1, 0, .inl rfl, by omega, rfl, rfl⟩
  case round =>
    obtain ⟨n, q, hn, hg, rfl, rfl⟩ := hrel
    have hs : ∀ (n m sl : Nat), n + m ≤ 5 → Nat.min sl (5 - n) = m → m ≤ n → ∀ q dc sc ty, (Builtin.copy_ #[74, 74] ty #[.slice (some ⟨w'.heap.size, n, none⟩) (5 - n) dc, .slice (some ⟨w'.heap.size, 0, none⟩) sl sc]).run Tryz.prog ((w'.alloc (.cells (rep5 n) 3 (0, 0))).drewN q) = .ok (goInt m) ((w'.alloc (.cells (rep5 (n + m)) 3 (0, 0))).drewN q) :=
      fun n m sl h1 h2 h3 q dc sc ty => rep5_copy w' n m q ⟨w'.heap.size, 0, none⟩ sl sc dc ty h1 h2 (fun j hj => by rw [Ovi.add_at, Nat.zero_add]; exact rep5_cell (by omega) (by omega))
    clear hcp0 hmk
    rcases hn with rfl | rfl | rfl | rfl
    · have h1 : ∀ q, (Builtin.copy_ #[74, 74] 3 #[.slice (some ⟨w'.heap.size, 1, none⟩) 4 4, .slice (some ⟨w'.heap.size, 0, none⟩) 1 5]).run Tryz.prog ((w'.alloc (.cells (rep5 1) 3 (0, 0))).drewN q) = .ok (.int .i64 1) ((w'.alloc (.cells (rep5 2) 3 (0, 0))).drewN q) := fun q => hs 1 1 1 (by omega) rfl (by omega) q 4 5 3
      clear hs
      go_wp2_with fail
      go_region_o
      go_wp2
      go_roundg 3
      case measure => omega
      case rel => exact ⟨2, q + 1, .inr (.inl rfl), by omega, by first | rfl | go_num, rfl⟩
    · have h1 : ∀ q, (Builtin.copy_ #[74, 74] 3 #[.slice (some ⟨w'.heap.size, 2, none⟩) 3 3, .slice (some ⟨w'.heap.size, 0, none⟩) 2 5]).run Tryz.prog ((w'.alloc (.cells (rep5 2) 3 (0, 0))).drewN q) = .ok (.int .i64 2) ((w'.alloc (.cells (rep5 4) 3 (0, 0))).drewN q) := fun q => hs 2 2 2 (by omega) rfl (by omega) q 3 5 3
      clear hs
      go_wp2_with fail
      go_region_o
      go_wp2
      go_roundg 1
      case measure => omega
      case rel => exact ⟨4, q + 1, .inr (.inr (.inl rfl)), by omega, by first | rfl | go_num, rfl⟩
    · have h1 : ∀ q, (Builtin.copy_ #[74, 74] 3 #[.slice (some ⟨w'.heap.size, 4, none⟩) 1 1, .slice (some ⟨w'.heap.size, 0, none⟩) 4 5]).run Tryz.prog ((w'.alloc (.cells (rep5 4) 3 (0, 0))).drewN q) = .ok (.int .i64 1) ((w'.alloc (.cells (rep5 5) 3 (0, 0))).drewN q) := fun q => hs 4 1 4 (by omega) rfl (by omega) q 1 5 3
      clear hs
      go_wp2_with fail
      go_region_o
      go_wp2
      go_roundg 0
      case measure => omega
      case rel => exact ⟨5, q + 1, .inr (.inr (.inr rfl)), by omega, by first | rfl | go_num, rfl⟩
    · go_wp2
      go_ret
      exact ⟨rfl, q, rfl⟩
end Go.Proofs

/-! VCa -/
namespace Go.Proofs
open Go.Shelf Go.RowKit Go.Lib Go.Sort
section
variable {α : Type} [Inhabited α]
/-- the row's atoms -/
def ats (lst : α → Int × List Int) (d : Array α) : Array (Int × List Int) := d.map lst
omit [Inhabited α] in
theorem ats_size (lst : α → Int × List Int) (d : Array α) : (ats lst d).size = d.size := by simp [ats]
theorem ats_get (lst : α → Int × List Int) {d : Array α} {k : Nat} (h : k < d.size) : (ats lst d)[k]! = lst d[k]! := by
  rw [getElem!_pos _ k (by rw [ats_size]; exact h), getElem!_pos d k h]
  simp [ats]
omit [Inhabited α] in
theorem ats_set (lst : α → Int × List Int) (d : Array α) (k : Nat) (x : α) : ats lst (d.setIfInBounds k x) = (ats lst d).setIfInBounds k (lst x) := by
  unfold ats
  apply Array.ext_getElem?
  intro i
  simp only [Array.getElem?_map, Array.getElem?_setIfInBounds, Array.size_map]
  by_cases h : k = i
  · subst h
    simp only [if_true]
    split <;> rfl
  · simp [h]
/-- what slices.CompactFunc leaves -/
def CaPost (lst : α → Int × List Int) (enc : α → List Value) (w : World) (blk off cap : Nat) (d : Array α) (e : Ending) (w' : World) : Prop :=
  ∃ (dk : Array α) (kk : Nat), e = .returned (.slice (some ⟨blk, off, none⟩) kk cap) ∧ dk.size = d.size ∧ SWK enc 2 w blk off dk w' ∧ kk ≤ d.size ∧ (dk.toList.take kk).map lst = Lib.compact (d.toList.map lst)
theorem ca_same (lst : α → Int × List Int) (enc : α → List Value) {w w' : World} {blk off cap : Nat} {d : Array α} (hS : SWK enc 2 w blk off d w') (hall : ∀ j, j < d.size → keeps (ats lst d) j = true) : CaPost lst enc w blk off cap d (.returned (.slice (some ⟨blk, off, none⟩) d.size cap)) w' := by
  refine ⟨d, d.size, rfl, rfl, hS, Nat.le_refl _, ?_⟩
  rw [show d.size = d.toList.length by simp, List.take_length]
  have := compact_all (d.toList.map lst) (fun j hj => by
    have h2 : (d.toList.map lst).toArray = ats lst d := by apply Array.ext_getElem?; intro i; simp [ats]
    rw [h2]
    exact hall j (by simpa using hj))
  exact this.symm
theorem ca_done (lst : α → Int × List Int) {d dk : Array α} {kk : Nat} (h : CompInv (ats lst d) (ats lst d).size kk (ats lst dk)) (hs : dk.size = d.size) : (dk.toList.take kk).map lst = Lib.compact (d.toList.map lst) := by
  have h2 : (d.toList.map lst).toArray = ats lst d := by apply Array.ext_getElem?; intro i; simp [ats]
  unfold Lib.compact
  rw [h2, show (d.toList.map lst).length = (ats lst d).size by simp [ats]]
  have hlt := h.lt
  rw [ats_size] at hlt
  apply List.ext_getElem?
  intro i
  by_cases hi : i < kk
  · rw [h.low i hi, ats_get lst (by omega), List.getElem?_map, List.getElem?_take_of_lt hi, getElem!_pos dk i (by omega)]
    simp [show i < dk.size by omega]
  · rw [List.getElem?_eq_none (by simp; omega), List.getElem?_eq_none (by rw [h.len]; omega)]
omit [Inhabited α] in
theorem lay_size' : ∀ (xs : List α) (d : Array α) (k : Nat), (lay d k xs).size = d.size
  | [], _, _ => rfl
  | x :: r, d, k => by rw [lay, lay_size' r]; simp
/-- what is asked of the comparison -/
def EqLays (P : Program) (g : Nat) (enc : α → List Value) (lst : α → Int × List Int) (blk off size : Nat) (w : World) : Prop :=
  ∀ (m : Nat) (os : Array Obj) (dk : Array α), dk.size = size → ∀ x y : α,
    Calls P g #[.agg (enc x).toArray, .agg (enc y).toArray] (sortWorldK enc 2 w blk off m dk os) fun e w' => e = .returned (.bool (decide (lst x = lst y))) ∧ ∃ q os', w' = grow ((sortWorldK enc 2 w blk off m dk os).drewN q) os'
theorem SWK.eqc {P : Program} {enc : α → List Value} {lst : α → Int × List Int} {w0 W : World} {blk off : Nat} {dk : Array α} {g size : Nat} (h : SWK enc 2 w0 blk off dk W) (hC : EqLays P g enc lst blk off size w0) (hs : dk.size = size) (x y : α) (n : Nat) (os : Array Obj) :
    Calls P g #[.agg (enc x).toArray, .agg (enc y).toArray] (grow (W.drewN n) os) fun e w' => e = .returned (.bool (decide (lst x = lst y))) ∧ ∃ q os', w' = grow ((grow (W.drewN n) os).drewN q) os' := by
  obtain ⟨m, os0, hw⟩ := h.grown n os
  rw [hw]
  exact hC m os0 dk hs x y
theorem SWK.cells2 {enc : α → List Value} {w0 W : World} {blk off : Nat} {dk d0 : Array α} (h : SWK enc 2 w0 blk off dk W) (R : RowK enc 2 w0 blk off d0) (hs : dk.size = d0.size) (i : Nat) (hi : i < dk.size) :
    W.cell? ⟨blk, off + i * 2, none⟩ = some (enc dk[i]!)[0]! ∧ W.cell? ⟨blk, off + i * 2 + 1, none⟩ = some (enc dk[i]!)[1]! ∧ W.frozen? ⟨blk, off + i * 2, none⟩ = false ∧ W.frozen? ⟨blk, off + i * 2 + 1, none⟩ = false := by
  have hH := h.holds R.hblk R.hH hs
  have h0 := hH.cell (c := 0) hi (by omega)
  have h1 := hH.cell (c := 1) hi (by omega)
  exact ⟨h0.1, h1.1, h0.2, h1.2⟩
theorem two {l : List Value} (h : l.length = 2) : l = [l[0]!, l[1]!] := by
  match l, h with
  | [a, b], _ => rfl
set_option maxHeartbeats 8000000 in
set_option maxRecDepth 1000000 in
theorem Tryz.compactFacts (enc : α → List Value) (lst : α → Int × List Int) (z : α) (hz : enc z = [.int .i64 0, .slice none 0 0]) (g : Nat) (blk off cap : Nat) (d : Array α) (w : World) (R : RowK enc 2 w blk off d)
    (eg : ∀ args w, (callFunc g args).run Tryz.prog w = .ok (.enter g args) w) (hcmp : EqLays Tryz.prog g enc lst blk off d.size w)
    (hsz : d.size < 4611686018427387904) (hcap : d.size ≤ cap) :
    Calls Tryz.prog 140 #[.slice (some ⟨blk, off, none⟩) d.size cap, .func (.func g) #[] #[]] w (CaPost lst enc w blk off cap d) := by
  have mixed : Tryz.prog.follows .mixedOrders = true := by kernel_rfl
  have RR : Aside (RowK enc 2 w blk off d) := R
  have HC : Aside (EqLays Tryz.prog g enc lst blk off d.size w) := hcmp
  have S0 : Aside (SWK enc 2 w blk off d w) := SWK.start R.hH
  clear hcmp R
  by_cases h2 : d.size < 2
  · go_enter Tryz.func140, Tryz.ntmps140
    go_wp2
    go_ret
    exact ca_same lst enc S0.out (fun j hj => keeps_lt_one _ j (by omega))
  · go_enter Tryz.func140, Tryz.ntmps140
    go_wp2
    go_loopg [5] d.size (fun g s5 wr => ∃ k : Nat, 1 ≤ k ∧ k ≤ d.size ∧ d.size - k ≤ g ∧ s5 = .int .i64 k ∧ Aside (SWK enc 2 w blk off d wr) ∧ Hid (∀ j, j < k → keeps (ats lst d) j = true))
    case atStart => exact ⟨1, Nat.le_refl _, by omega, by omega, rfl, S0, keeps_lt_one _⟩
    case round =>
      clear S0
      obtain ⟨k, hk1, hk, hg, rfl, S1, hall⟩ := hrel
      by_cases hlt : k < d.size
      · obtain ⟨k1, rfl⟩ : ∃ k1, k = k1 + 1 := ⟨k - 1, by omega⟩
        have cj0 := fun n os => ((S1.out.grown n os).cells2 RR.out rfl (k1 + 1) hlt).1
        have cj1 := fun n os => ((S1.out.grown n os).cells2 RR.out rfl (k1 + 1) hlt).2.1
        have cp0 := fun n os => ((S1.out.grown n os).cells2 RR.out rfl k1 (by omega)).1
        have cp1 := fun n os => ((S1.out.grown n os).cells2 RR.out rfl k1 (by omega)).2.1
        have hcg := fun n os => S1.out.eqc HC.out rfl d[k1 + 1]! d[k1]! n os
        have B : Aside ((ats lst d)[k1 + 1]! = lst d[k1 + 1]! ∧ (ats lst d)[k1]! = lst d[k1]!) := ⟨ats_get lst hlt, ats_get lst (by omega)⟩
        have hx2 : (enc d[k1 + 1]!).length = 2 := RR.out.hk _
        have hy2 : (enc d[k1]!).length = 2 := RR.out.hk _
        generalize d[k1 + 1]! = x at *
        generalize d[k1]! = y at *
        rw [two hx2, two hy2] at hcg
        generalize (enc x)[0]! = x0 at *
        generalize (enc x)[1]! = x1 at *
        generalize (enc y)[0]! = y0 at *
        generalize (enc y)[1]! = y1 at *
        clear hx2 hy2
        have hwp : IntKind.i64.wrap (k1 : Int) = (k1 : Int) := by rw [IntKind.wrap_i64]; omega
        have jz : (k1 : Int) + 1 < (d.size : Int) := by omega
        have jz1 : (k1 : Int) < (d.size : Int) := by omega
        have p0 : (0 : Int) ≤ (k1 : Int) + 1 := by omega
        have e0 : ((k1 : Int) + 1).toNat = k1 + 1 := by omega
        by_cases hdup : lst x = lst y
        · have hd : decide (lst x = lst y) = true := decide_eq_true hdup
          rw [hd] at hcg
          clear hd
          go_wp2_with fail
          go_quiet_grown (first | (go_at_fn g; refine Calls.grown_of (hcg _ _)))
          go_wp2_with fail
          go_wp2
          go_loopg [5, 7] d.size (fun g s5 s7 wr => ∃ (kk kb : Nat) (dk : Array α), s5 = .int .i64 kk ∧ s7 = .int .i64 ((kb + 1 : Nat) : Int) ∧ k1 + 1 + (kb + 1) ≤ d.size ∧ d.size - (k1 + 1 + (kb + 1)) ≤ g ∧ dk.size = d.size ∧ Aside (SWK enc 2 w blk off dk wr) ∧ Hid (CompInv (ats lst d) (k1 + 1 + (kb + 1)) kk (ats lst dk)))
          case atStart =>
            refine ⟨k1 + 1, 0, d, by first | rfl | go_num, by first | rfl | go_num, by omega, by omega, rfl, S1.out.grown nq osq, (show CompInv _ _ _ _ from ?_)⟩
            exact CompInv.start hall.out (keeps_neg (by omega) (by rw [B.out.1, Nat.add_sub_cancel, B.out.2]; exact hdup))
          case round =>
            clear S1 cj0 cj1 cp0 cp1 hcg
            obtain ⟨kk, kb, dk, rfl, rfl, hle, hg2, hds, S3, hI⟩ := hrel
            have hkk := hI.out.lt
            by_cases hlt2 : k1 + 1 + (kb + 1) < d.size
            · have cm0 := fun n os => ((S3.out.grown n os).cells2 RR.out hds (k1 + 1 + (kb + 1)) (by omega)).1
              have cm1 := fun n os => ((S3.out.grown n os).cells2 RR.out hds (k1 + 1 + (kb + 1)) (by omega)).2.1
              have cp0 := fun n os => ((S3.out.grown n os).cells2 RR.out hds (k1 + 1 + kb) (by omega)).1
              have cp1 := fun n os => ((S3.out.grown n os).cells2 RR.out hds (k1 + 1 + kb) (by omega)).2.1
              have hcg := fun n os => S3.out.eqc HC.out hds dk[k1 + 1 + (kb + 1)]! dk[k1 + 1 + kb]! n os
              have B2 : Aside ((ats lst d)[k1 + 1 + (kb + 1)]! = lst dk[k1 + 1 + (kb + 1)]! ∧ (ats lst d)[k1 + 1 + kb]! = lst dk[k1 + 1 + kb]!) :=
                ⟨by rw [← hI.out.high _ (by omega), ats_get lst (by omega)], by rw [← hI.out.high _ (by omega), ats_get lst (by omega)]⟩
              rw [show off + (k1 + 1 + (kb + 1)) * 2 = off + (k1 + 1) * 2 + (kb + 1) * 2 by omega] at cm0 cm1
              rw [show off + (k1 + 1 + kb) * 2 = off + (k1 + 1) * 2 + kb * 2 by omega] at cp0 cp1
              have hx2 : (enc dk[k1 + 1 + (kb + 1)]!).length = 2 := RR.out.hk _
              have hy2 : (enc dk[k1 + 1 + kb]!).length = 2 := RR.out.hk _
              have hu1 := RR.out.h1 dk[k1 + 1 + (kb + 1)]!
              generalize dk[k1 + 1 + (kb + 1)]! = um at *
              generalize dk[k1 + 1 + kb]! = up at *
              have E : Aside (enc um = [(enc um)[0]!, (enc um)[1]!]) := two hx2
              rw [two hx2, two hy2] at hcg
              rw [two hx2] at hu1
              have o0 : (enc um)[0]!.oneCell' = true := hu1 _ (by simp)
              have o1 : (enc um)[1]!.oneCell' = true := hu1 _ (by simp)
              generalize (enc um)[0]! = m0 at *
              generalize (enc um)[1]! = m1 at *
              generalize (enc up)[0]! = p0' at *
              generalize (enc up)[1]! = p1' at *
              clear hx2 hy2 hu1
              have r1 : (kb : Int) + 1 < ((d.size - (k1 + 1) : Nat) : Int) := by omega
              have r2 : (kb : Int) < ((d.size - (k1 + 1) : Nat) : Int) := by omega
              have r3 : (0 : Int) ≤ (kb : Int) + 1 := by omega
              have r4 : ((kb : Int) + 1).toNat = kb + 1 := by omega
              have r5 : IntKind.i64.wrap (kb : Int) = (kb : Int) := by rw [IntKind.wrap_i64]; omega
              have r6 : kk < d.size := by omega
              by_cases hdup2 : lst um = lst up
              · have hd : decide (lst um = lst up) = true := decide_eq_true hdup2
                rw [hd] at hcg
                clear hd
                go_wp2_with fail
                go_quiet_grown (first | (go_at_fn g; refine Calls.grown_of (hcg _ _)))
                go_wp2
                go_roundg (d.size - (k1 + 1 + (kb + 1 + 1)))
                case measure => omega
                case rel => exact ⟨kk, kb + 1, dk, rfl, by go_num, by omega, Nat.le_refl _, hds, S3.out.grown nq osq, hI.out.skip (keeps_neg (by omega) (by rw [B2.out.1, show k1 + 1 + (kb + 1) - 1 = k1 + 1 + kb by omega, B2.out.2]; exact hdup2))⟩
              · have hd : decide (lst um = lst up) = false := decide_eq_false hdup2
                rw [hd] at hcg
                clear hd
                go_wp2_with fail
                go_quiet_grown (first | (go_at_fn g; refine Calls.grown_of (hcg _ _)))
                go_wp2_with fail
                have S4 : Aside (SWK enc 2 w blk off dk (grow (wr.drewN nq) osq)) := S3.out.grown nq osq
                have cm02 := cm0 nq osq
                have cm12 := cm1 nq osq
                obtain ⟨ck0, ck1, fk0, fk1⟩ := S4.out.cells2 RR.out hds kk (by omega)
                clear cm0 cm1 cp0 cp1 hcg S3
                generalize grow (wr.drewN nq) osq = wr4 at cm02 cm12 ck0 ck1 fk0 fk1 S4 ⊢
                generalize (enc dk[kk]!)[0]! = k0 at *
                generalize (enc dk[kk]!)[1]! = k1' at *
                have hst0 : Sem.run Tryz.prog (store ⟨blk, off + kk * 2, none⟩ m0) wr4 = .ok () (wr4.setCell ⟨blk, off + kk * 2, none⟩ m0) := by rw [run_store Tryz.prog _ _ _ _ o0, ck0]; simp [fk0]
                have hst1 : Sem.run Tryz.prog (store ⟨blk, off + kk * 2 + 1, none⟩ m1) (wr4.setCell ⟨blk, off + kk * 2, none⟩ m0) = .ok () ((wr4.setCell ⟨blk, off + kk * 2, none⟩ m0).setCell ⟨blk, off + kk * 2 + 1, none⟩ m1) := by
                  rw [run_store Tryz.prog _ _ _ _ o1, World.cell?_setCell_other _ _ _ _ (by simp), ck1, World.frozen?_setCell]; simp [fk1]
                have S5 : Aside (SWK enc 2 w blk off (dk.setIfInBounds kk um) ((wr4.setCell ⟨blk, off + kk * 2, none⟩ m0).setCell ⟨blk, off + kk * 2 + 1, none⟩ m1)) := by
                  have := S4.out.set RR.out kk (by omega) um
                  rw [E.out] at this
                  exact this
                generalize (wr4.setCell ⟨blk, off + kk * 2, none⟩ m0).setCell ⟨blk, off + kk * 2 + 1, none⟩ m1 = wr5 at hst1 S5
                generalize wr4.setCell ⟨blk, off + kk * 2, none⟩ m0 = wr45 at hst0 hst1
                go_wp2
                simp only [hst0, hst1, Result.andThen_ok]
                go_wp2
                go_roundg (d.size - (k1 + 1 + (kb + 1 + 1)))
                case measure => omega
                case rel =>
                  refine ⟨kk + 1, kb + 1, dk.setIfInBounds kk um, by go_num, by go_num, by omega, Nat.le_refl _, by simpa using hds, S5, (show CompInv _ _ _ _ from ?_)⟩
                  have := hI.out.keep (by rw [ats_size]; omega) (keeps_pos (by rw [B2.out.1, show k1 + 1 + (kb + 1) - 1 = k1 + 1 + kb by omega, B2.out.2]; exact hdup2))
                  rw [B2.out.1] at this
                  rw [ats_set]
                  exact this
            · have hend : k1 + 1 + (kb + 1) = d.size := by omega
              have hcl : ∀ ty, (Builtin.clear_ #[35] ty #[.slice (some ⟨blk, off + kk * 2, none⟩) (d.size - kk) (cap - kk)]).run Tryz.prog wr = .ok (.tuple #[]) (wr.setCells blk (off + kk * 2) (List.replicate (d.size - kk) (enc z)).flatten) :=
                fun ty => S3.out.clear RR.out hds Tryz.prog 35 90 ty z (.agg #[.int .i64 0, .slice none 0 0]) Tryz.underlying35 Tryz.zeroValue90 (by rw [hz]; rfl) (by omega) kk (d.size - kk) (cap - kk) (by omega) (by omega)
              have S4 : Aside (SWK enc 2 w blk off (Lib.lay dk kk (List.replicate (d.size - kk) z)) (wr.setCells blk (off + kk * 2) (List.replicate (d.size - kk) (enc z)).flatten)) := SWK.lay RR.out z (d.size - kk) kk dk wr S3.out (by omega)
              generalize wr.setCells blk (off + kk * 2) (List.replicate (d.size - kk) (enc z)).flatten = wr6 at hcl S4
              have r1 : ¬ (kb : Int) + 1 < ((d.size - (k1 + 1) : Nat) : Int) := by omega
              clear S3
              go_wp2
              go_ret
              have hI := hI.out
              rw [hend] at hI
              refine ⟨Lib.lay dk kk (List.replicate (d.size - kk) z), kk, rfl, ?_, S4.out, by omega, ?_⟩
              · rw [lay_size']; exact hds
              · rw [← ca_done lst (by rw [ats_size]; exact hI) hds]
                congr 1
                apply List.ext_getElem?
                intro i
                rw [List.getElem?_take, List.getElem?_take]
                by_cases h : i < kk
                · rw [if_pos h, if_pos h, Array.getElem?_toList, Array.getElem?_toList, lay_get? _ _ _ _ (by simp; omega), if_neg (by omega)]
                · rw [if_neg h, if_neg h]
        · have hd : decide (lst x = lst y) = false := decide_eq_false hdup
          rw [hd] at hcg
          clear hd
          go_wp2_with fail
          go_quiet_grown (first | (go_at_fn g; refine Calls.grown_of (hcg _ _)))
          go_wp2
          go_roundg (d.size - (k1 + 1 + 1))
          case measure => omega
          case rel =>
            refine ⟨k1 + 1 + 1, by omega, by omega, Nat.le_refl _, by go_num, S1.out.grown nq osq, (show ∀ j, j < k1 + 1 + 1 → keeps (ats lst d) j = true from fun j hj => ?_)⟩
            by_cases e : j = k1 + 1
            · subst e
              exact keeps_pos (by rw [B.out.1, Nat.add_sub_cancel, B.out.2]; exact hdup)
            · exact hall.out j (by omega)
      · have : k = d.size := by omega
        subst this
        go_wp2
        go_ret
        exact ca_same lst enc S1.out hall.out
end
end Go.Proofs
