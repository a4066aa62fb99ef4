/-
For every instance the law FnExactLargestBlockSize returns true, and the arguments read afterwards as they read before. No condition.
-/
import Derived.Test.YtjfdcddjheandaaQa
import Derived.Shelf.SlSortCmp.Whole1
import Derived.Shelf.Sort.Plain
import Derived.Ground.Names2Prog
import Derived.Shelf.Small.Wraps
import Derived.Shelf.Slices.Clone
import Derived.Shelf.Slices.CompactI
import Derived.Ground.SlsfProg
import Derived.Test.YtjfdcddjheandaaProg
import Derived.Shelf.RegionOpenPlain
import Derived.WalkKit
import Derived.Deep.LoopGhost
import Derived.Lib.Walk
import Derived.Test.YtjfdcddjheandaaRows
set_option linter.unusedVariables false
set_option linter.unusedSimpArgs false
/-! Srw -/
namespace Ovi
open Go Go.Proofs Go.RowKit Go.Sort Go.Lib Go.Shelf
/-- the shelf's law pays it, the comparison's contract given -/
theorem sortF_run {P : Program} {ρ : Ren} (L : SlLaysF.n6 P ρ) {g : FuncId} (eg : ∀ args w, (callFunc g args).run P w = .ok (.enter g args) w) (hC : CmpC P g) (w : World) (S : Nat → Prop) (blk cap : Nat) (d : Array (HdL w S)) (hS : ∀ k, S k → k < w.heap.size) (hn : ¬ S blk) (hH : Holds encH w blk 0 d) (hb : blk < w.heap.size) (hsz : d.size < 4611686018427387904) :
    Calls P (ρ.f 6) #[.slice (some ⟨blk, 0, none⟩) d.size cap, .func (.func g) #[] #[]] w fun e w' => e = .returned (.tuple #[]) ∧ ∃ (d' : Array (HdL w S)) (n : Nat) (os : Array Obj), PermIn 0 d.size d d' ∧ SortedIn (ltOf cmpH) 0 d.size d' ∧ w' = sortWorld encH w blk 0 n d' os :=
  Any.slices_SortFunc L encH (fun x => by
    obtain ⟨v, l, ⟨A, c, rfl, _⟩, _⟩ := x
    rfl) cmpH swoH g #[] blk 0 cap d w eg (fun m os dk hs x y => by
    have := hC (sortWorld encH w blk 0 m dk os) S (encH x) (encH y) (lstH x) (lstH y) (x.h.stab (stabS dk hS hn)) (y.h.stab (stabS dk hS hn)) x.b y.b
    exact this) hH hb hsz
end Ovi

/-! NSh -/
/-
  DERIVED: THE SHELF's CONTRACTS AT THIS DUMP, IN PLAIN WORDS (tools/lay-plain.mjs out of 'TryShelf.lean', which tools/lay-shelf.mjs wrote): THE SAME DECLARATIONS UNDER THE SAME NAMES: 'import', 'namespace', 'open', 'def', 'theorem' AND NOTHING ELSE: no command of the shelf's: FOR A HAND-IN. Each laying: the table of numbers ('.._ren') and one theorem, a field a fact of the dump's own or the kernel's comparison; each contract: ONE APPLICATION.
-/
namespace Go.Proofs
open Go.Shelf
def Try.lays122_ren : Go.Shelf.Ren := ⟨fun | 122 => 91 | 215 => 123 | n => n, fun | 3 => 3 | 4 => 4 | n => n, fun | n => n⟩
theorem Try.lays122 : Go.Proofs.Lays.n122 Try.prog Try.lays122_ren := {
  mixed := by kernel_rfl
  f122 := Try.func91.trans (congrArg some (by kernel_rfl))
  f215 := Try.func123.trans (congrArg some (by kernel_rfl))
  t3 := Try.underlying3
  a3 := Try.isAgg3
  z3 := Try.sizeOf3
  v3 := Try.zeroValue3
  t4 := Try.underlying4
  a4 := Try.isAgg4
  z4 := Try.sizeOf4
  v4 := Try.zeroValue4 }
def Try.lays189_ren : Go.Shelf.Ren := ⟨fun | 189 => 59 | 125 => 89 | 257 => 88 | 128 => 113 | 129 => 114 | 294 => 104 | 295 => 105 | 296 => 106 | 297 => 107 | 298 => 108 | 299 => 109 | 216 => 110 | 300 => 111 | 301 => 112 | 328 => 125 | 329 => 126 | 330 => 127 | 331 => 128 | 332 => 129 | 215 => 123 | 343 => 133 | n => n, fun | 28 => 26 | 3 => 3 | 46 => 106 | 0 => 0 | 51 => 122 | 53 => 124 | 4 => 4 | 183 => 115 | 182 => 114 | 131 => 89 | 5 => 5 | 9 => 9 | 218 => 130 | 222 => 134 | 228 => 138 | 229 => 139 | n => n, fun | n => n⟩
theorem Try.lays189 : Go.Proofs.Lays.n189 Try.prog Try.lays189_ren := {
  mixed := by kernel_rfl
  f125 := Try.func89.trans (congrArg some (by kernel_rfl))
  f128 := Try.func113.trans (congrArg some (by kernel_rfl))
  f129 := Try.func114.trans (congrArg some (by kernel_rfl))
  f189 := Try.func59.trans (congrArg some (by kernel_rfl))
  f215 := Try.func123.trans (congrArg some (by kernel_rfl))
  f216 := Try.func110.trans (congrArg some (by kernel_rfl))
  f257 := Try.func88.trans (congrArg some (by kernel_rfl))
  f294 := Try.func104.trans (congrArg some (by kernel_rfl))
  f295 := Try.func105.trans (congrArg some (by kernel_rfl))
  f296 := Try.func106.trans (congrArg some (by kernel_rfl))
  f297 := Try.func107.trans (congrArg some (by kernel_rfl))
  f298 := Try.func108.trans (congrArg some (by kernel_rfl))
  f299 := Try.func109.trans (congrArg some (by kernel_rfl))
  f300 := Try.func111.trans (congrArg some (by kernel_rfl))
  f301 := Try.func112.trans (congrArg some (by kernel_rfl))
  f328 := Try.func125.trans (congrArg some (by kernel_rfl))
  f329 := Try.func126.trans (congrArg some (by kernel_rfl))
  f330 := Try.func127.trans (congrArg some (by kernel_rfl))
  f331 := Try.func128.trans (congrArg some (by kernel_rfl))
  f332 := Try.func129.trans (congrArg some (by kernel_rfl))
  f343 := Try.func133.trans (congrArg some (by kernel_rfl))
  t0 := Try.underlying0
  a0 := Try.isAgg0
  z0 := Try.sizeOf0
  v0 := Try.zeroValue0
  t3 := Try.underlying3
  a3 := Try.isAgg3
  z3 := Try.sizeOf3
  v3 := Try.zeroValue3
  t4 := Try.underlying4
  a4 := Try.isAgg4
  z4 := Try.sizeOf4
  v4 := Try.zeroValue4
  t5 := Try.underlying5
  a5 := Try.isAgg5
  z5 := Try.sizeOf5
  v5 := Try.zeroValue5
  t9 := Try.underlying9
  a9 := Try.isAgg9
  z9 := Try.sizeOf9
  v9 := Try.zeroValue9
  t28 := Try.underlying26
  a28 := Try.isAgg26
  z28 := Try.sizeOf26
  v28 := Try.zeroValue26
  t46 := Try.underlying106
  a46 := Try.isAgg106
  z46 := Try.sizeOf106
  v46 := Try.zeroValue106
  t51 := Try.underlying122
  a51 := Try.isAgg122
  z51 := Try.sizeOf122
  v51 := Try.zeroValue122
  t53 := Try.underlying124
  a53 := Try.isAgg124
  z53 := Try.sizeOf124
  v53 := Try.zeroValue124
  t131 := Try.underlying89
  a131 := Try.isAgg89
  z131 := Try.sizeOf89
  v131 := Try.zeroValue89
  t182 := Try.underlying114
  a182 := Try.isAgg114
  z182 := Try.sizeOf114
  v182 := Try.zeroValue114
  t183 := Try.underlying115
  a183 := Try.isAgg115
  z183 := Try.sizeOf115
  v183 := Try.zeroValue115
  t218 := Try.underlying130
  a218 := Try.isAgg130
  z218 := Try.sizeOf130
  v218 := Try.zeroValue130
  t222 := Try.underlying134
  a222 := Try.isAgg134
  z222 := Try.sizeOf134
  v222 := Try.zeroValue134
  t228 := Try.underlying138
  a228 := Try.isAgg138
  z228 := Try.sizeOf138
  v228 := Try.zeroValue138
  t229 := Try.underlying139
  a229 := Try.isAgg139
  z229 := Try.sizeOf139
  v229 := Try.zeroValue139 }
def Try.laysNm215_ren : Go.Shelf.Ren := ⟨fun | 15 => 124 | n => n, fun | 22 => 26 | 3 => 3 | 4 => 4 | n => n, fun | n => n⟩
theorem Try.laysNm215 : Go.Proofs.Lays2.n15 Try.prog Try.laysNm215_ren := {
  mixed := by kernel_rfl
  f15 := Try.func124.trans (congrArg some (by kernel_rfl))
  t3 := Try.underlying3
  a3 := Try.isAgg3
  z3 := Try.sizeOf3
  v3 := Try.zeroValue3
  t4 := Try.underlying4
  a4 := Try.isAgg4
  z4 := Try.sizeOf4
  v4 := Try.zeroValue4
  t22 := Try.underlying26
  a22 := Try.isAgg26
  z22 := Try.sizeOf26
  v22 := Try.zeroValue26
  i3 := by kernel_rfl }
def Try.laysNm220_ren : Go.Shelf.Ren := ⟨fun | 20 => 60 | n => n, fun | 22 => 26 | 3 => 3 | 4 => 4 | 0 => 0 | n => n, fun | n => n⟩
theorem Try.laysNm220 : Go.Proofs.Lays2.n20 Try.prog Try.laysNm220_ren := {
  mixed := by kernel_rfl
  f20 := Try.func60.trans (congrArg some (by kernel_rfl))
  t0 := Try.underlying0
  a0 := Try.isAgg0
  z0 := Try.sizeOf0
  v0 := Try.zeroValue0
  t3 := Try.underlying3
  a3 := Try.isAgg3
  z3 := Try.sizeOf3
  v3 := Try.zeroValue3
  t4 := Try.underlying4
  a4 := Try.isAgg4
  z4 := Try.sizeOf4
  v4 := Try.zeroValue4
  t22 := Try.underlying26
  a22 := Try.isAgg26
  z22 := Try.sizeOf26
  v22 := Try.zeroValue26
  i3 := by kernel_rfl }
def Try.laysSlF6_f61_ren : Go.Shelf.Ren := ⟨fun | 6 => 61 | 15 => 89 | 14 => 90 | 28 => 113 | 29 => 114 | 20 => 115 | 21 => 116 | 22 => 117 | 23 => 118 | 24 => 119 | 25 => 120 | 26 => 121 | 27 => 122 | 46 => 130 | 47 => 126 | 48 => 127 | 49 => 131 | 50 => 132 | 57 => 134 | n => n, fun | 22 => 50 | 24 => 26 | 25 => 79 | 3 => 3 | 39 => 106 | 0 => 0 | 53 => 122 | 55 => 124 | 4 => 4 | 46 => 115 | 45 => 114 | 50 => 89 | 5 => 5 | 9 => 9 | 66 => 130 | 70 => 134 | 76 => 138 | 77 => 139 | n => n, fun | n => n⟩
theorem Try.laysSlF6_f61 : Go.Proofs.SlLaysF.n6 Try.prog Try.laysSlF6_f61_ren := {
  mixed := by kernel_rfl
  f6 := ⟨Try.f61.name, by decide, Try.func61.trans (congrArg some (by kernel_rfl))⟩
  f14 := ⟨Try.f90.name, by decide, Try.func90.trans (congrArg some (by kernel_rfl))⟩
  f15 := Try.func89.trans (congrArg some (by kernel_rfl))
  f20 := ⟨Try.f115.name, by decide, Try.func115.trans (congrArg some (by kernel_rfl))⟩
  f21 := ⟨Try.f116.name, by decide, Try.func116.trans (congrArg some (by kernel_rfl))⟩
  f22 := ⟨Try.f117.name, by decide, Try.func117.trans (congrArg some (by kernel_rfl))⟩
  f23 := ⟨Try.f118.name, by decide, Try.func118.trans (congrArg some (by kernel_rfl))⟩
  f24 := ⟨Try.f119.name, by decide, Try.func119.trans (congrArg some (by kernel_rfl))⟩
  f25 := ⟨Try.f120.name, by decide, Try.func120.trans (congrArg some (by kernel_rfl))⟩
  f26 := ⟨Try.f121.name, by decide, Try.func121.trans (congrArg some (by kernel_rfl))⟩
  f27 := ⟨Try.f122.name, by decide, Try.func122.trans (congrArg some (by kernel_rfl))⟩
  f28 := Try.func113.trans (congrArg some (by kernel_rfl))
  f29 := Try.func114.trans (congrArg some (by kernel_rfl))
  f46 := ⟨Try.f130.name, by decide, Try.func130.trans (congrArg some (by kernel_rfl))⟩
  f47 := Try.func126.trans (congrArg some (by kernel_rfl))
  f48 := Try.func127.trans (congrArg some (by kernel_rfl))
  f49 := ⟨Try.f131.name, by decide, Try.func131.trans (congrArg some (by kernel_rfl))⟩
  f50 := ⟨Try.f132.name, by decide, Try.func132.trans (congrArg some (by kernel_rfl))⟩
  f57 := ⟨Try.f134.name, by decide, Try.func134.trans (congrArg some (by kernel_rfl))⟩
  t0 := Try.underlying0
  a0 := Try.isAgg0
  z0 := Try.sizeOf0
  v0 := Try.zeroValue0
  t3 := Try.underlying3
  a3 := Try.isAgg3
  z3 := Try.sizeOf3
  v3 := Try.zeroValue3
  t4 := Try.underlying4
  a4 := Try.isAgg4
  z4 := Try.sizeOf4
  v4 := Try.zeroValue4
  t5 := Try.underlying5
  a5 := Try.isAgg5
  z5 := Try.sizeOf5
  v5 := Try.zeroValue5
  t9 := Try.underlying9
  a9 := Try.isAgg9
  z9 := Try.sizeOf9
  v9 := Try.zeroValue9
  t22 := Try.underlying50
  a22 := Try.isAgg50
  z22 := Try.sizeOf50
  v22 := Try.zeroValue50
  a24 := Try.isAgg26
  z24 := Try.sizeOf26
  t25 := Try.underlying79
  a25 := Try.isAgg79
  z25 := Try.sizeOf79
  v25 := Try.zeroValue79
  t39 := Try.underlying106
  a39 := Try.isAgg106
  z39 := Try.sizeOf106
  v39 := Try.zeroValue106
  t45 := Try.underlying114
  a45 := Try.isAgg114
  z45 := Try.sizeOf114
  v45 := Try.zeroValue114
  t46 := Try.underlying115
  a46 := Try.isAgg115
  z46 := Try.sizeOf115
  v46 := Try.zeroValue115
  t50 := Try.underlying89
  a50 := Try.isAgg89
  z50 := Try.sizeOf89
  v50 := Try.zeroValue89
  t53 := Try.underlying122
  a53 := Try.isAgg122
  z53 := Try.sizeOf122
  v53 := Try.zeroValue122
  t55 := Try.underlying124
  a55 := Try.isAgg124
  z55 := Try.sizeOf124
  v55 := Try.zeroValue124
  t66 := Try.underlying130
  a66 := Try.isAgg130
  z66 := Try.sizeOf130
  v66 := Try.zeroValue130
  t70 := Try.underlying134
  a70 := Try.isAgg134
  z70 := Try.sizeOf134
  v70 := Try.zeroValue134
  t76 := Try.underlying138
  a76 := Try.isAgg138
  z76 := Try.sizeOf138
  v76 := Try.zeroValue138
  t77 := Try.underlying139
  a77 := Try.isAgg139
  z77 := Try.sizeOf139
  v77 := Try.zeroValue139 }
end Go.Proofs

/-! NCm -/
namespace Go.Proofs
open Go.Shelf Go.RowKit Go.Lib Go.Sort Ovi
set_option maxHeartbeats 2000000 in
set_option maxRecDepth 1000000 in
theorem Try.cmp_both (b o c b' o' c' : Nat) (xs ys : List Int) (w : World) (hl : xs.length < 4611686018427387904) (hl' : ys.length < 4611686018427387904)
    (hx : ∀ (i : Nat) z, xs[i]? = some z → w.cell? ⟨b, o + i, none⟩ = some (.int .i64 z)) (hy : ∀ (i : Nat) z, ys[i]? = some z → w.cell? ⟨b', o' + i, none⟩ = some (.int .i64 z)) :
    Calls Try.prog 62 #[.slice (some ⟨b, o, none⟩) xs.length c, .slice (some ⟨b', o', none⟩) ys.length c'] w fun e w' => e = .returned (.int .i64 (cmpL xs ys)) ∧ w' = w := by
  go_enter Try.func62, Try.ntmps62
  go_wp2
  go_loop [11] (fun i => ∃ k : Nat, k ≤ xs.length ∧ k ≤ ys.length ∧ i = .int .i64 k ∧ Hid (cmpL xs ys = cmpL (xs.drop k) (ys.drop k))) (fun i => xs.length - (intOf i).toNat)
  case atStart => exact ⟨0, Nat.zero_le _, Nat.zero_le _, rfl, rfl⟩
  case round =>
    obtain ⟨k, hk, hk', rfl, H⟩ := hrel
    by_cases hlt : k < xs.length
    · by_cases hlt' : k < ys.length
      · have g1 := hx k _ (List.getElem?_eq_getElem hlt)
        have g2 := hy k _ (List.getElem?_eq_getElem hlt')
        have D : Hid (cmpL (xs.drop k) (ys.drop k) = if xs[k] < ys[k] then -1 else if xs[k] > ys[k] then 1 else cmpL (xs.drop (k + 1)) (ys.drop (k + 1))) := by
          show _ = _
          rw [List.drop_eq_getElem_cons hlt, List.drop_eq_getElem_cons hlt']
          rfl
        clear hx hy
        have hcon := Any.cmp_Compare_int Try.lays122 xs[k] ys[k] w
        change Calls Try.prog 91 _ _ _ at hcon
        have E : Hid (Lib.compareInt xs[k] ys[k] = if xs[k] < ys[k] then -1 else if xs[k] > ys[k] then 1 else 0) := by
          show _ = _
          unfold Lib.compareInt
          rfl
        generalize hr : Lib.compareInt xs[k] ys[k] = r at hcon E
        clear hr
        generalize xs[k] = x at *
        generalize ys[k] = y at *
        by_cases hr0 : r = 0
        · subst hr0
          go_wp2_with (go_at_call 91; refine hcon.mono ?_; rintro e w' ⟨rfl, rfl⟩)
          go_round
          case rel =>
            refine ⟨k + 1, by omega, by omega, by go_num, ?_⟩
            show _ = _
            have h1 := E.out
            have h2 := D.out
            rw [H.out, h2]
            by_cases q1 : x < y
            · rw [if_pos q1] at h1; omega
            · rw [if_neg q1] at h1 ⊢
              by_cases q2 : x > y
              · rw [if_pos q2] at h1; omega
              · rw [if_neg q2]
          case measure => simp [intOf]; omega
        · go_wp2_with (go_at_call 91; refine hcon.mono ?_; rintro e w' ⟨rfl, rfl⟩)
          go_ret
          refine ⟨?_, rfl⟩
          show Ending.returned (Value.int .i64 r) = Ending.returned (Value.int .i64 (cmpL xs ys))
          have h1 := E.out
          have h2 := D.out
          rw [H.out, h2]
          by_cases q1 : x < y
          · rw [if_pos q1] at h1 ⊢; rw [h1]
          · rw [if_neg q1] at h1 ⊢
            by_cases q2 : x > y
            · rw [if_pos q2] at h1 ⊢; rw [h1]
            · rw [if_neg q2] at h1; exact absurd h1 hr0
      · obtain rfl : k = ys.length := by omega
        have g1 := hx ys.length _ (List.getElem?_eq_getElem hlt)
        have D : Hid (cmpL xs ys = 1) := by
          show _ = _
          rw [H.out, List.drop_length, List.drop_eq_getElem_cons hlt]
          rfl
        clear hx hy H
        generalize xs[ys.length] = x at g1
        go_wp2
        go_ret
        refine ⟨?_, rfl⟩
        show Ending.returned (Value.int .i64 1) = Ending.returned (Value.int .i64 (cmpL xs ys))
        rw [D.out]
    · clear hx hy
      obtain rfl : k = xs.length := by omega
      by_cases hlen : xs.length < ys.length
      · go_wp2
        go_ret
        refine ⟨?_, rfl⟩
        rw [H.out, List.drop_length, List.drop_eq_getElem_cons hlen]
        rfl
      · go_wp2
        go_ret
        refine ⟨?_, rfl⟩
        rw [H.out, List.drop_length, List.drop_of_length_le (by omega)]
        rfl
set_option maxHeartbeats 2000000 in
set_option maxRecDepth 1000000 in
theorem Try.cmp_nil (A A' : Option Addr) (c n c' : Nat) (w : World) :
    Calls Try.prog 62 #[.slice A 0 c, .slice A' n c'] w fun e w' => e = .returned (.int .i64 (if 0 < n then -1 else 0)) ∧ w' = w := by
  by_cases hn : 0 < n
  · rw [if_pos hn]
    go_enter Try.func62, Try.ntmps62
    go_wp2
    go_loop [11] (fun i => i = .int .i64 0) (fun _ => 0)
    case atStart => rfl
    case round =>
      subst hrel
      go_wp2
      go_ret
      exact ⟨rfl, rfl⟩
  · rw [if_neg hn]
    obtain rfl : n = 0 := by omega
    go_enter Try.func62, Try.ntmps62
    go_wp2
    go_loop [11] (fun i => i = .int .i64 0) (fun _ => 0)
    case atStart => rfl
    case round =>
      subst hrel
      go_wp2
      go_ret
      exact ⟨rfl, rfl⟩
set_option maxHeartbeats 2000000 in
set_option maxRecDepth 1000000 in
theorem Try.cmp_one (b o c n c' : Nat) (A' : Option Addr) (x : Int) (w : World) (hn : 0 < n) (hx : w.cell? ⟨b, o, none⟩ = some (.int .i64 x)) :
    Calls Try.prog 62 #[.slice (some ⟨b, o, none⟩) n c, .slice A' 0 c'] w fun e w' => e = .returned (.int .i64 1) ∧ w' = w := by
  go_enter Try.func62, Try.ntmps62
  go_wp2
  go_loop [11] (fun i => i = .int .i64 0) (fun _ => 0)
  case atStart => rfl
  case round =>
    subst hrel
    go_wp2
    go_ret
    exact ⟨rfl, rfl⟩
end Go.Proofs

/-! NSa -/
namespace Go.Proofs.Ytjfdcddjheandaa.Q
open Go Ovi Go.RowKit Go.Proofs
theorem ok : progOk Try.prog = true := by kernel_rfl
theorem mixed : Try.prog.follows .mixedOrders = true := by kernel_rfl
theorem bare (k : Nat) : Sound Try.prog noG (evCall Try.prog hs (fun _ => none) k) := evCall_ok (drawSound mixed) (okProg ok) (fun _ _ => rfl) (sound_none _ _) k
theorem sort_nil : evCall Try.prog hs (fun _ => none) 8 59 [.d (.list 1 [])] = some [] := by kernel_rfl
theorem sortF_nil : evCall Try.prog hs (fun _ => none) 8 61 [.d (.list 1 []), .d (.fn 62 [])] = some [] := by kernel_rfl
theorem sortC : SortC Try.prog 59 where
  known := ⟨Try.f59, Try.func59, rfl, by kernel_rfl⟩
  run := fun blk off cap zs w hH hb hl => Any.slices_Sort_int Try.lays189 blk off cap zs w hH hb hl
  nil := fun A w => by
    refine ((bare 8).plain 59 _ _ sort_nil w (fun _ => False) (fun _ => False) #[.slice A 0 0] (fun _ h => h.elim) (fun _ h => h.elim) ⟨rfl, fun j a ha => ?_⟩ trivial).mono fun e w' ⟨v, S', mr, he, hb, _, _, hr⟩ => ?_
    · cases j with
      | zero => cases ha; exact ⟨_, rfl, RD.nil A 1⟩
      | succ j => simp at ha
    · obtain ⟨⟨vs, h1, h2, _⟩, _⟩ := hr
      obtain rfl := List.eq_nil_of_length_eq_zero h2
      exact ⟨by rw [he, h1], hb⟩
theorem compactC : CompactC Try.prog 60 where
  known := ⟨Try.f60, Try.func60, rfl, by kernel_rfl⟩
  run := fun blk off cap zs w hH hb hl => Any.slices_Compact_int Try.laysNm220 blk off cap zs w hH hb hl
  nil := fun A cap w => Any.slices_Compact_int_empty Try.laysNm220 A cap w
theorem cloneC : CloneC Try.prog 124 3 where
  known := ⟨Try.f124, Try.func124, rfl, by kernel_rfl⟩
  run := fun b off n c zs w hz hb hc => Any.slices_Clone_int Try.laysNm215 b off n c zs w hz hb hc
  nil := fun n c w => Any.slices_Clone_int_nil Try.laysNm215 n c w
  zero := fun a c w => Any.slices_Clone_int_zero Try.laysNm215 a c w
/-- the comparison's contract, by the walk -/
theorem cmpC : CmpC Try.prog 62 := by
  intro w S u v xs ys ⟨A, c, hu, hc, hx⟩ ⟨A', c', hv, hc', hy⟩ hxl hyl
  subst hu hv
  have fin : ∀ {z z' : Int}, z = z' → ∀ {vs : Array Value}, (Calls Try.prog 62 vs w fun e w' => e = .returned (.int .i64 z) ∧ w' = w) → Calls Try.prog 62 vs w fun e w' => e = .returned (.int .i64 z') ∧ ∃ q os, w' = Go.Sort.grow (w.drewN q) os := by
    intro z z' hz vs h
    subst hz
    exact h.mono fun e w' ⟨h1, h2⟩ => ⟨h1, 0, #[], by rw [h2, Go.Sort.grow_empty]; rfl⟩
  have addr : ∀ {zs : List Int} {B : Option Addr}, zs ≠ [] → (∀ (i : Nat) z, zs[i]? = some z → ∃ ad, B = some ad ∧ S ad.block ∧ w.cell? (ad.add i) = some (.int .i64 z)) → ∃ b o, B = some ⟨b, o, none⟩ ∧ ∀ (i : Nat) z, zs[i]? = some z → w.cell? ⟨b, o + i, none⟩ = some (.int .i64 z) := by
    intro zs B hne h
    cases zs with
    | nil => exact absurd rfl hne
    | cons z0 zs =>
      obtain ⟨ad, e, _, h0⟩ := h 0 z0 rfl
      obtain ⟨b, o, spot⟩ := ad
      have hspot : spot = none := by simpa [Addr.add] using World.cell?_spot h0
      subst hspot
      refine ⟨b, o, e, fun i z hz => ?_⟩
      obtain ⟨ad', e', _, hi⟩ := h i z hz
      rw [e] at e'
      cases e'
      rwa [add_at] at hi
  by_cases hx0 : xs = []
  · subst hx0
    refine fin ?_ (Try.cmp_nil A A' c ys.length c' w)
    cases ys with
    | nil => rfl
    | cons y ys => rw [if_pos (by simp)]; rfl
  · obtain ⟨b, o, rfl, hx1⟩ := addr hx0 hx
    by_cases hy0 : ys = []
    · subst hy0
      cases xs with
      | nil => exact absurd rfl hx0
      | cons x xs => exact fin rfl (Try.cmp_one b o c _ c' A' x w (by simp) (by have := hx1 0 x rfl; simpa using this))
    · obtain ⟨b', o', rfl, hy1⟩ := addr hy0 hy
      exact fin rfl (Try.cmp_both b o c b' o' c' xs ys w (by omega) (by omega) hx1 hy1)
theorem sortFC : SortFC Try.prog 61 62 where
  known := ⟨Try.f61, Try.func61, rfl, by kernel_rfl⟩
  run := fun w S blk cap d hS hn hH hb hsz => sortF_run Try.laysSlF6_f61 (enters_of Try.func62 (by kernel_rfl) rfl) cmpC w S blk cap d hS hn hH hb hsz
  nil := fun A w => by
    refine ((bare 8).plain 61 _ _ sortF_nil w (fun _ => False) (fun _ => False) #[.slice A 0 0, .func (.func 62) #[] #[]] (fun _ h => h.elim) (fun _ h => h.elim) ⟨rfl, fun j a ha => ?_⟩ trivial).mono fun e w' ⟨v, S', mr, he, hb, _, _, hr⟩ => ?_
    · match j, ha with
      | 0, ha => cases ha; exact ⟨_, rfl, RD.nil A 1⟩
      | 1, ha => cases ha; exact ⟨_, rfl, RD.fn 62 #[] [] (fun _ _ => undef) rfl (fun j xs h => by simp at h) (fun j c x h => by simp [cellD] at h)⟩
      | j + 2, ha => simp at ha
    · obtain ⟨⟨vs, h1, h2, _⟩, _⟩ := hr
      obtain rfl := List.eq_nil_of_length_eq_zero h2
      exact ⟨by rw [he, h1], hb⟩
theorem sound (k : Nat) : Sound Try.prog noG (C k) := evCall_ok (drawSound mixed) (okProg ok) (fun _ _ => rfl) (sound_prims (by
  intro x hx
  simp only [List.mem_cons, List.not_mem_nil, or_false] at hx
  rcases hx with rfl | rfl | rfl | rfl
  · exact sortC.ok
  · exact compactC.ok
  · exact cloneC.ok
  · exact sortFC.ok)) k
end Go.Proofs.Ytjfdcddjheandaa.Q

/-! NE5 -/
namespace Go.Proofs.Ytjfdcddjheandaa.Q
open Go Ovi Go.ChangeShapes Go.WideShapes Go.ChangeAt Go.RowKit
theorem own : ownKnob Try.prog.godebug = none := by kernel_rfl
theorem laidOut : laidOutB Try.prog = true := by kernel_rfl
def ty5 : List (Bool × List Ty) := [(true, [.list [.str, .int .i64, .bool], .list [.int .i64, .list [.int .i64]]])]
theorem tys5 : parTys Try.prog Try.f5.params.toList = some ty5 := by kernel_rfl
theorem readable5 : readable Try.prog Try.f5.params.toList = true := by kernel_rfl
theorem law_args5 {av : List AV} (h : ArgsFit ty5 av) : C 3000000 5 av = some yes := by
  match av, h with
  | [p0], h =>
    simp only [ty5, ArgsFit, and_true] at h
    have g0 := h
    cases p0 <;> simp only [ArgFit] at g0
    obtain ⟨ds0, rfl, g0⟩ := g0
    obtain ⟨_, _, rfl, e0_0, g0⟩ := Fits.cons g0
    obtain ⟨_, _, rfl, e0_1, g0⟩ := Fits.cons g0
    obtain rfl := Fits.nil g0
    obtain ⟨_, rfl, e0_0⟩ := e0_0.list (n := 3) rfl
    obtain ⟨_, rfl, e0_1⟩ := e0_1.list (n := 2) rfl
    exact law5 (Nat.le_refl _) e0_0 e0_1
set_option maxRecDepth 100000 in
theorem lifted5 (os : Os) (started : os.Started) (H : Type) (enc : TypeId × Value → H) :
    ReturnsInHanded {} Try.checked os 5 .any (Rows.fnExactLargestBlockSizeSpec.pre6 enc Try.prog Try.f5 Rows.fnExactLargestBlockSizeRow.domain false) (Rows.fnExactLargestBlockSizeSpec.post enc Try.prog Try.f5 false true false false) := by
  refine returnsInHanded_of_change (C := Try.checked) own started (by kernel_rfl) Try.func5
    (ChangeSpec.witness6 (enc := enc) (C := Try.checked) false ⟨#[], #[.agg #[.slice none 0 0, .slice none 0 0]], []⟩ 8 (by kernel_rfl) (by kernel_rfl) (by kernel_rfl) (by kernel_rfl)) ?_
  intro W base args ds gs before hval0 hW hcnd _
  have hval : ∀ (j : Nat) t v, Try.f5.params[j]? = some t → args[j]? = some v → Value.okWide Try.prog W .any base t v := hval0
  have hW' := hW
  obtain ⟨p, q, hA0, hV, rfl, hfz, hnd⟩ := hW
  have hA : DataW.TrodAll enc Try.prog W 0 (fun _ => true) true Try.f5.params.toList args.toList ds p := hA0
  obtain ⟨rfl, rfl⟩ := trodVars_none hV
  obtain ⟨av, hfit, hlen, hac⟩ := args_in hA (base := base) (fun j t v h1 h2 => hval j t v (by simpa using h1) (by simpa using h2)) tys5
  refine (calls_yes (sound 3000000) (law_args5 hfit) (vs := args) ⟨by simpa using hlen, fun j a ha => by
    obtain ⟨u, hu, hc⟩ := hac j a ha
    exact ⟨u, by simpa using hu, hc⟩⟩ trivial).mono fun e W' ⟨he, bel⟩ => ?_
  subst he
  have hk := kept_all laidOut bel readable5 hA
  obtain ⟨d0, rfl⟩ : ∃ d0, ds = [d0] := by
    obtain ⟨v0, vs0, d0, ds0, p0, q0, rg0, rfl, rfl, h0, r0⟩ := trodAll_cons hA
    obtain ⟨rfl, rfl, rfl⟩ := trodAll_nil r0
    exact ⟨_, rfl⟩
  exact ⟨_, rfl, _, _, _, [], _, [], hW', trodAll_mk1 (shut_bool (show Try.prog.underlying 4 = some .bool by kernel_rfl) _), hk, rfl, bel.frame _, fun h => by cases h⟩
theorem over5 : Rows.fnExactLargestBlockSizeRow.holds Try.pinned (OpenSpec.ofChange Rows.fnExactLargestBlockSizeSpec) :=
  OpenClaim.holds_of_wide 5 Try.f5 rfl rfl rfl rfl rfl rfl rfl ⟨rfl, rfl, rfl, rfl, rfl⟩ rfl rfl rfl rfl rfl (by kernel_rfl) Try.func5 (by kernel_rfl)
    (of_decide_eq_true (by kernel_rfl)) (by unfold Func.isWrapper; first | (rw [if_pos (by decide +kernel)]; kernel_rfl) | (rw [if_neg (by decide +kernel)]; exact ⟨rfl, rfl⟩))
    (fun os started H enc _ => lifted5 os started H enc)
end Go.Proofs.Ytjfdcddjheandaa.Q
namespace Go.Proofs.Ytjfdcddjheandaa
theorem fnExactLargestBlockSize_holds : Rows.FnExactLargestBlockSizeSaid := Q.over5
#print axioms fnExactLargestBlockSize_holds
end Go.Proofs.Ytjfdcddjheandaa
