/-
The functions of the program as the machine runs them: printed equations; the library's sort, compact and clone at this program. No condition.
-/
import Derived.Test.YtekcjghbfbfmpaaProg
import Derived.Test.YtekcjghbfbfmpaaOb
import Derived.KernelRfl
import Derived.Shelf.Sort.Plain
import Derived.Shelf.Slices.CompactI
import Derived.Shelf.Slices.Clone
set_option linter.unusedVariables false
set_option linter.unusedSimpArgs false
/-! B -/
namespace Go.Proofs.Ytekcjghbfbfmpaa.Q
open Go Ovi
noncomputable abbrev P := Try.prog
def sg : FuncId → Sig := fun f => match f with
  | 3 => [(false, [.bool])]
  | 4 => [(false, [.bool])]
  | 5 => [(false, [.bool])]
  | 6 => [(false, [.bool])]
  | 7 => [(false, [.bool])]
  | 8 => [(false, [.bool])]
  | 9 => [(false, [.bool])]
  | 10 => [(false, [.bool])]
  | 11 => [(false, [.int .i64])]
  | 12 => [(false, [.bool])]
  | 13 => [(true, [.own 3 1, .own 95 2])]
  | 14 => [(false, [.bool])]
  | 15 => [(false, [.bool])]
  | 16 => [(false, [.int .i64])]
  | 17 => [(false, [.bool])]
  | 18 => [(false, [.own 104 3])]
  | 19 => [(false, [.bool])]
  | 20 => [(false, [.bool])]
  | 21 => [(false, [.int .i64])]
  | 22 => [(false, [.bool])]
  | 23 => [(true, [.own 3 1, .own 95 2, .int .i64, .int .i64])]
  | 24 => [(false, [.bool])]
  | 25 => [(false, [.bool])]
  | 26 => [(false, [.int .i64])]
  | 27 => [(true, [.own 104 3, .own 114 2]), (false, [.bool])]
  | 28 => [(true, [.own 104 3, .own 114 2])]
  | 29 => [(false, [.own 3 1])]
  | 30 => [(true, [.own 104 3, .ro 2]), (false, [.bool])]
  | 31 => [(false, [.bool])]
  | 32 => [(false, [.bool])]
  | 33 => [(false, [.int .i64])]
  | 34 => [(false, [.int .i64])]
  | 35 => [(false, [.int .i64])]
  | 36 => [(false, [.int .i64])]
  | 37 => [(false, [.bool])]
  | 38 => [(true, [.own 104 3, .own 114 2, .own 126 3])]
  | 39 => [(false, [.bool])]
  | 40 => [(false, [.bool])]
  | 41 => [(false, [.int .i64])]
  | 42 => [(false, [.bool])]
  | 43 => [(true, [.own 3 1, .own 3 1])]
  | 44 => [(false, [.bool])]
  | 45 => [(false, [.bool])]
  | 46 => [(true, [.own 104 3, .own 114 2, .own 126 3]), (false, [.bool])]
  | 47 => [(true, [.own 104 3, .own 114 2, .own 126 3]), (false, [.bool])]
  | 48 => [(false, [.int .i64])]
  | 49 => [(false, [.int .i64])]
  | 50 => [(false, [.int .i64])]
  | 51 => [(false, [.int .i64])]
  | 52 => [(false, [.int .i64])]
  | 53 => [(false, [.int .i64])]
  | 54 => [(false, [.int .i64])]
  | 55 => [(false, [.bool])]
  | 56 => [(false, [.own 95 2])]
  | 57 => [(false, [.bool])]
  | 58 => [(false, [.bool])]
  | 59 => [(false, [.bool])]
  | 60 => [(false, [.bool])]
  | 61 => [(false, [.int .i64])]
  | 62 => [(false, [.ro 1])]
  | 63 => [(false, [.bool])]
  | 64 => [(false, [.bool])]
  | 65 => [(false, [.bool])]
  | 66 => [(true, [.str, .int .i64, .bool])]
  | 67 => [(false, [.own 3 1])]
  | 68 => [(false, [.bool])]
  | 69 => [(false, [.bool])]
  | 70 => [(false, [.bool])]
  | 71 => [(false, [.bool])]
  | 72 => [(false, [.bool])]
  | 73 => [(false, [.int .i64])]
  | 74 => [(false, [.bool])]
  | 75 => [(false, [.ro 1])]
  | 76 => [(true, [.int .i64, .own 3 1])]
  | 77 => [(false, [.own 114 2])]
  | 78 => [(false, [.bool])]
  | 79 => [(true, [.own 104 3, .own 114 2])]
  | 80 => [(false, [.ro 2])]
  | 81 => [(false, [.bool])]
  | 82 => [(false, [.bool])]
  | 83 => [(false, [.bool])]
  | 84 => [(false, [.int .i64])]
  | 85 => [(false, [.int .i64])]
  | 86 => [(false, [.int .i64])]
  | 87 => [(false, [.int .i64])]
  | 88 => [(false, [.int .i64])]
  | 89 => [(false, [.int .i64]), (false, [.bool])]
  | 90 => [(false, [.bool])]
  | 91 => [(false, [.ro 1])]
  | 92 => [(false, [.own 126 3])]
  | 93 => [(false, [.int .i64])]
  | 94 => [(false, [.bool])]
  | 95 => [(false, [.bool])]
  | 96 => [(false, [.bool])]
  | 97 => [(false, [.bool])]
  | 98 => [(false, [.bool])]
  | 99 => [(false, [.bool])]
  | 100 => [(true, [.own 104 3, .own 114 2])]
  | 101 => [(false, [.bool])]
  | 102 => [(false, [.int .i64])]
  | 103 => [(false, [.int .i64])]
  | 104 => [(false, [.own 22 1])]
  | 105 => [(false, [.own 22 1])]
  | 106 => [(false, [.int .i64])]
  | 107 => [(true, [.int .i64, .own 3 1])]
  | 108 => [(false, [.bool])]
  | 109 => [(false, [.ro 1])]
  | 110 => [(false, [.bool])]
  | 111 => [(true, [])]
  | 112 => [(true, []), (true, [])]
  | 113 => [(false, [.bool])]
  | 114 => [(false, [.bool])]
  | 115 => [(false, [.bool])]
  | 116 => [(false, [.bool])]
  | 117 => [(false, [.int .i64])]
  | 118 => [(false, [.int .i64])]
  | 119 => [(false, [.int .i64])]
  | 120 => [(false, [.bool])]
  | 121 => [(false, [.int .i64])]
  | 122 => [(true, [.int .i64, .own 3 1])]
  | 123 => [(false, [.bool])]
  | 124 => [(false, [.bool])]
  | 125 => [(false, [.int .i64])]
  | 126 => [(false, [.own 3 1])]
  | 127 => [(false, [.own 104 3])]
  | 128 => [(false, [.own 114 2])]
  | 129 => [(false, [.int .i64])]
  | 130 => [(false, [.bool])]
  | 131 => [(false, [.bool])]
  | 132 => [(false, [.str])]
  | 133 => [(false, [.int .i64])]
  | 134 => [(false, [.int .i64])]
  | 135 => [(true, [.int .i64, .int .i64, .own 3 1])]
  | 136 => [(false, [.own 3 1])]
  | 137 => [(false, [.bool])]
  | 138 => [(false, [.int .i64])]
  | 139 => [(false, [.own 3 1])]
  | 140 => [(false, [.bool])]
  | 141 => [(false, [.bool])]
  | 142 => [(false, [.bool])]
  | 143 => [(false, [.bool])]
  | 144 => [(false, [.int .i64])]
  | 145 => [(true, [.int .i64, .own 3 1])]
  | 146 => [(false, [.bool])]
  | 147 => [(false, [.bool])]
  | 148 => [(false, [.bool])]
  | 149 => [(false, [.bool])]
  | 150 => [(false, [.bool])]
  | 151 => [(true, [.int .i64, .own 3 1])]
  | 152 => [(false, [.bool])]
  | 153 => []
  | 154 => [(false, [.int .i64])]
  | 155 => [(false, [.bool])]
  | 156 => []
  | 157 => [(false, [.int .i64])]
  | 158 => [(false, [.int .i64])]
  | 159 => [(false, [.bool])]
  | 160 => [(false, [.bool])]
  | 161 => [(false, [.bool])]
  | 162 => [(false, [.bool])]
  | 163 => [(false, [.int .i64])]
  | 164 => [(false, [.int .i64])]
  | 165 => [(false, [.own 3 1])]
  | 166 => [(true, [.int .i64, .own 3 1])]
  | 167 => [(false, [.bool])]
  | 168 => [(false, [.int .i64]), (false, [.bool])]
  | 169 => [(false, [.int .i64])]
  | 170 => [(false, [.bool])]
  | 171 => [(false, [.int .i64])]
  | 172 => [(false, [.bool])]
  | 173 => [(false, [.bool])]
  | 174 => [(false, [.bool])]
  | 175 => [(false, [.int .i64])]
  | 176 => []
  | 177 => []
  | 178 => []
  | 179 => []
  | 180 => [(false, [.int .i64]), (false, [.int .i64])]
  | 181 => []
  | 182 => [(false, [.bool])]
  | 183 => [(false, [.bool])]
  | 184 => [(false, [.int .i64])]
  | 185 => [(false, [.int .i64]), (false, [.bool])]
  | 186 => [(false, [.int .i64])]
  | 187 => [(false, [.int .i64])]
  | 188 => [(false, [.bool])]
  | 189 => [(false, [.own 3 1])]
  | 190 => [(false, [.int .i64])]
  | 191 => []
  | 192 => []
  | 193 => []
  | 194 => [(false, [.int .i64]), (false, [.int .i64])]
  | 195 => []
  | 196 => [(false, [.bool])]
  | 197 => [(false, [.int .i64])]
  | 198 => [(false, [.int .i64]), (false, [.bool])]
  | 199 => []
  | 200 => [(false, [.int .u64])]
  | 201 => [(false, [.int .u64])]
  | 202 => [(false, [.int .i64])]
  | 203 => [(false, [.int .i64])]
  | 204 => []
  | 205 => [(false, [.int .i64])]
  | 206 => [(false, [.int .i64])]
  | 207 => [(false, [.int .i64]), (false, [.int .i64])]
  | 208 => [(false, [.int .i64]), (false, [.int .i64])]
  | _ => []
def lp : FuncId → Nat → LoopHint := fun f l => match f, l with
  | 16, 5 => [(0, .same), (1, .same), (5, .same)]
  | 17, 3 => [(0, .same), (3, .box [.same, .same]), (5, .same), (6, .same)]
  | 17, 8 => [(3, .box [.same, .same]), (5, .same), (7, .same)]
  | 18, 3 => [(0, .same), (3, .own 104 3), (4, .same)]
  | 20, 4 => [(0, .same), (1, .same), (5, .same)]
  | 27, 5 => [(1, .same), (2, .box [.same, .same]), (4, .box [.own 104 3, .own 114 2]), (6, .box [.own 104 3, .own 114 2]), (7, .same)]
  | 27, 10 => [(1, .same), (2, .box [.same, .same]), (4, .box [.own 104 3, .own 114 2]), (6, .box [.own 104 3, .own 114 2]), (7, .same), (8, .same), (9, .same), (10, .same)]
  | 29, 3 => [(0, .same), (3, .own 3 1), (4, .same)]
  | 32, 4 => [(0, .same), (1, .same), (5, .same)]
  | 34, 2 => [(0, .same), (1, .same), (5, .same)]
  | 37, 3 => [(1, .box [.same, .same, .same]), (3, .own 3 1), (4, .same)]
  | 37, 7 => [(1, .box [.same, .same, .same]), (3, .own 3 1), (4, .same), (5, .same), (6, .same)]
  | 37, 19 => [(1, .box [.same, .same, .same]), (3, .own 3 1), (4, .same), (10, .same)]
  | 42, 4 => [(3, .box [.same, .same]), (4, .box [.same, .same]), (5, .box [.same, .same]), (7, .same)]
  | 42, 9 => [(3, .box [.same, .same]), (4, .box [.same, .same]), (5, .box [.same, .same]), (7, .same), (8, .same)]
  | 44, 4 => [(5, .box [.same, .same]), (24, .same), (25, .same), (26, .same)]
  | 50, 4 => [(3, .same), (4, .own 22 1), (5, .same)]
  | 51, 3 => [(3, .same), (7, .own 22 1), (8, .same), (9, .same)]
  | 53, 5 => [(0, .same), (1, .same), (5, .same)]
  | 54, 2 => [(0, .same), (1, .same), (5, .same)]
  | 55, 4 => [(0, .same), (1, .same), (5, .same)]
  | 56, 3 => [(0, .same), (3, .own 95 2), (4, .same)]
  | 57, 4 => [(0, .same), (1, .same), (12, .same), (13, .same)]
  | 58, 4 => [(1, .same), (2, .same), (15, .same), (16, .same), (17, .same)]
  | 60, 4 => [(0, .same), (1, .same), (5, .same)]
  | 62, 3 => [(0, .same), (3, .data 1), (4, .same)]
  | 62, 6 => [(0, .same), (3, .data 1), (4, .same), (5, .same)]
  | 63, 4 => [(3, .box [.same, .same]), (5, .same)]
  | 64, 2 => [(0, .same), (1, .same), (5, .same)]
  | 67, 3 => [(3, .own 3 1), (9, .same), (10, .same), (11, .same)]
  | 67, 6 => [(3, .own 3 1), (9, .same), (10, .same), (11, .same), (16, .data 1), (17, .same), (18, .same)]
  | 73, 5 => [(0, .same), (1, .same), (5, .same)]
  | 74, 2 => [(1, .box [.same, .same]), (3, .same)]
  | 75, 3 => [(1, .box [.same, .same]), (3, .data 1), (4, .same)]
  | 77, 3 => [(0, .same), (3, .own 114 2), (4, .same)]
  | 78, 4 => [(1, .box [.same, .same]), (16, .same), (17, .same), (18, .same)]
  | 80, 5 => [(0, .same), (1, .same), (5, .same), (6, .same)]
  | 83, 4 => [(0, .same), (1, .same), (5, .same)]
  | 84, 2 => [(0, .same), (1, .same), (5, .same)]
  | 85, 2 => [(0, .same), (1, .same), (5, .same)]
  | 86, 2 => [(0, .same), (1, .same), (5, .same)]
  | 87, 2 => [(0, .same), (1, .same), (5, .same)]
  | 88, 5 => [(0, .same), (1, .same), (5, .same)]
  | 91, 3 => [(1, .box [.same, .same]), (3, .data 1), (4, .same)]
  | 91, 7 => [(1, .box [.same, .same]), (3, .data 1), (4, .same), (5, .same), (6, .same)]
  | 92, 3 => [(0, .same), (3, .own 126 3), (4, .same)]
  | 94, 4 => [(0, .same), (8, .same), (9, .same), (10, .same)]
  | 95, 4 => [(0, .same), (1, .same), (5, .same)]
  | 96, 4 => [(3, .box [.same, .same]), (4, .box [.same, .same]), (5, .box [.same, .same]), (7, .same)]
  | 100, 3 => [(1, .box [.same, .same]), (2, .box [.own 104 3, .own 114 2]), (3, .box [.own 104 3, .own 114 2]), (4, .same)]
  | 102, 2 => [(0, .same), (1, .same), (5, .same)]
  | 103, 2 => [(0, .same), (1, .same), (5, .same)]
  | 104, 7 => [(1, .box [.same, .same]), (3, .own 22 1), (4, .same), (5, .own 3 1), (6, .same)]
  | 104, 11 => [(1, .box [.same, .same]), (3, .own 22 1), (4, .same), (5, .own 3 1), (7, .same)]
  | 104, 14 => [(1, .box [.same, .same]), (3, .own 22 1), (4, .same), (5, .own 3 1), (7, .same), (8, .same)]
  | 104, 19 => [(1, .box [.same, .same]), (3, .own 22 1), (4, .same), (5, .own 3 1), (7, .same), (8, .same), (9, .same), (10, .same), (11, .same)]
  | 104, 23 => [(1, .box [.same, .same]), (3, .own 22 1), (4, .same), (5, .own 3 1), (7, .same), (8, .same), (9, .same), (10, .same), (12, .same)]
  | 104, 27 => [(3, .own 22 1), (4, .same), (5, .own 3 1), (13, .same)]
  | 104, 31 => [(3, .own 22 1), (4, .same), (5, .own 3 1), (13, .same), (14, .own 3 1), (15, .same)]
  | 105, 5 => [(3, .own 22 1), (16, .same), (17, .same), (18, .same)]
  | 105, 11 => [(6, .box [.own 3 1]), (7, .own 22 1), (16, .same), (17, .same), (18, .same), (28, .own 22 1), (29, .same), (30, .same)]
  | 109, 2 => [(0, .same), (1, .same), (5, .same)]
  | 110, 2 => [(0, .same), (3, .same)]
  | 112, 4 => [(0, .same), (3, .same)]
  | 112, 9 => [(0, .same), (3, .same), (4, .same), (5, .same)]
  | 117, 2 => [(0, .same), (1, .same), (7, .same), (8, .same)]
  | 118, 2 => [(0, .same), (1, .same), (7, .same), (8, .same)]
  | 120, 4 => [(3, .box [.same, .same]), (5, .same)]
  | 123, 2 => [(0, .same), (5, .same), (6, .same), (7, .same)]
  | 128, 3 => [(3, .own 114 2), (7, .same), (8, .same), (9, .same)]
  | 129, 2 => [(0, .same), (1, .same), (7, .same), (8, .same)]
  | 132, 4 => [(0, .same), (3, .same)]
  | 133, 2 => [(0, .same), (1, .same), (5, .same)]
  | 136, 3 => [(3, .own 3 1), (8, .same), (9, .same), (10, .same)]
  | 139, 3 => [(3, .own 3 1), (10, .same), (11, .same), (12, .same)]
  | 139, 7 => [(3, .own 3 1), (6, .same), (10, .same), (11, .same), (12, .same), (18, .own 3 1), (19, .same), (20, .same)]
  | 142, 4 => [(1, .box [.same, .same]), (3, .same)]
  | 143, 4 => [(0, .same), (1, .same), (5, .same)]
  | 144, 2 => [(2, .box [.same, .same]), (3, .box [.same, .same]), (5, .same)]
  | 145, 3 => [(2, .box [.same, .same]), (3, .box [.same, .same]), (4, .box [.same, .own 3 1]), (5, .box [.same, .own 3 1]), (6, .same)]
  | 147, 4 => [(1, .box [.same, .same]), (13, .same), (14, .same), (15, .same)]
  | 151, 3 => [(2, .box [.same, .same]), (4, .box [.same, .own 3 1]), (5, .box [.same, .own 3 1]), (11, .same), (12, .same), (13, .same)]
  | 154, 2 => [(0, .same), (1, .same), (9, .same), (10, .same), (11, .same)]
  | 156, 2 => [(0, .same), (1, .same), (2, .same), (3, .same), (8, .same), (9, .same)]
  | 158, 2 => [(0, .same), (1, .same), (7, .same), (8, .same)]
  | 163, 3 => [(3, .same), (6, .same), (7, .same), (8, .same)]
  | 165, 3 => [(3, .own 3 1), (9, .same), (10, .same), (11, .same)]
  | 169, 2 => [(0, .same), (1, .same), (7, .same), (8, .same)]
  | 171, 2 => [(1, .same), (2, .box [.same, .same]), (5, .same)]
  | 172, 4 => [(0, .same), (1, .same), (12, .same), (13, .same)]
  | 176, 2 => [(0, .same), (1, .same), (2, .same), (3, .same), (4, .same), (10, .same), (11, .same)]
  | 177, 1 => [(0, .same), (1, .same), (2, .same), (6, .same)]
  | 177, 4 => [(0, .same), (1, .same), (2, .same), (6, .same), (7, .same)]
  | 178, 4 => [(0, .same), (6, .same), (7, .same), (8, .same), (9, .same)]
  | 178, 8 => [(0, .same), (6, .same), (7, .same), (10, .same)]
  | 179, 5 => [(0, .same), (1, .same), (6, .same), (7, .box [.same]), (8, .same), (9, .same)]
  | 181, 2 => [(0, .same), (6, .same), (7, .same)]
  | 182, 3 => [(0, .same), (1, .same), (2, .same), (7, .same), (8, .same)]
  | 182, 5 => [(0, .same), (1, .same), (2, .same), (7, .same), (8, .same)]
  | 182, 14 => [(0, .same), (1, .same), (2, .same), (7, .same), (8, .same), (9, .same)]
  | 182, 20 => [(0, .same), (1, .same), (2, .same), (7, .same), (8, .same), (10, .same)]
  | 184, 3 => [(0, .same), (1, .same), (9, .same), (10, .same)]
  | 184, 5 => [(0, .same), (1, .same), (9, .same), (10, .same)]
  | 185, 3 => [(0, .same), (1, .same), (10, .same), (11, .same)]
  | 185, 5 => [(0, .same), (1, .same), (10, .same), (11, .same)]
  | 185, 13 => [(0, .same), (1, .same), (10, .same), (11, .same)]
  | 185, 15 => [(0, .same), (1, .same), (10, .same), (11, .same)]
  | 191, 1 => [(0, .same), (1, .same), (2, .same), (3, .same), (8, .same)]
  | 191, 4 => [(0, .same), (1, .same), (2, .same), (3, .same), (8, .same), (9, .same)]
  | 192, 4 => [(0, .same), (3, .same), (8, .same), (9, .same), (10, .same), (11, .same)]
  | 192, 8 => [(0, .same), (3, .same), (8, .same), (9, .same), (12, .same)]
  | 193, 5 => [(0, .same), (1, .same), (8, .same), (9, .box [.same]), (10, .same), (11, .same)]
  | 195, 2 => [(0, .same), (8, .same), (9, .same)]
  | 196, 3 => [(0, .same), (1, .same), (2, .same), (3, .same), (9, .same), (10, .same)]
  | 196, 5 => [(0, .same), (1, .same), (2, .same), (3, .same), (9, .same), (10, .same)]
  | 196, 14 => [(0, .same), (1, .same), (2, .same), (3, .same), (9, .same), (10, .same), (11, .same)]
  | 196, 20 => [(0, .same), (1, .same), (2, .same), (3, .same), (9, .same), (10, .same), (12, .same)]
  | 197, 3 => [(0, .same), (1, .same), (4, .same), (11, .same), (12, .same)]
  | 197, 5 => [(0, .same), (1, .same), (4, .same), (11, .same), (12, .same)]
  | 198, 3 => [(0, .same), (1, .same), (4, .same), (12, .same), (13, .same)]
  | 198, 5 => [(0, .same), (1, .same), (4, .same), (12, .same), (13, .same)]
  | 198, 13 => [(0, .same), (1, .same), (4, .same), (12, .same), (13, .same)]
  | 198, 15 => [(0, .same), (1, .same), (4, .same), (12, .same), (13, .same)]
  | 199, 1 => [(0, .same), (2, .same), (3, .same), (8, .same)]
  | 204, 1 => [(0, .same), (2, .same), (3, .same), (4, .same), (10, .same)]
  | _, _ => []
def hs : Hints := { sig := sg, loops := lp, joins := fun _ _ => none }

def prim : FuncId → Option (Args → Option Res) := prim3 111 112 189 3
noncomputable def C (k : Nat) : CallF := evCall P hs prim k
end Go.Proofs.Ytekcjghbfbfmpaa.Q

/-! Fa -/
namespace Go.Proofs.Ytekcjghbfbfmpaa.Q
open Go Ovi
set_option maxRecDepth 1000000
theorem F4.eq (k : Nat) (call : CallF) (a0 : Ovi.Rows) (a1_0 : Ovi.Rows) (a1_1 : Ovi.Rows) : evFnK P hs call (4 : FuncId) k Try.f4 [AV.d (D.list 3 a0), AV.agg [AV.d (D.list 1 a1_0), AV.d (D.list 2 a1_1)]] = bindR (call 16 [AV.d (D.list 3 a0), AV.d (D.int IntKind.i64 (1048576 : Int))]) fun r5 => bindI (resI IntKind.i64 1 false 1 r5 0 0) fun n6 => ite' (decide (n6 < (0 : Int))) (some ([(false, [RL.d (D.bool true)])])) (bindR (call 11 [AV.agg [AV.d (D.list 1 a1_0), AV.d (D.list 2 a1_1)], AV.d (D.int IntKind.i64 n6)]) fun r7 => bindI (resI IntKind.i64 1 false 1 r7 0 0) fun n8 => ite' (decide (n8 < (0 : Int))) (some ([(false, [RL.d (D.bool true)])])) (bindR (call 18 [AV.d (D.list 3 a0)]) fun r9 => bindL (resO 104 3 1 false 1 r9 0 0) fun l10 => bindR (call 13 [AV.agg [AV.d (D.list 1 a1_0), AV.d (D.list 2 a1_1)]]) fun r11 => bindL (resO 3 1 1 true 2 r11 0 0) fun l12 => bindL (resO 95 2 1 true 2 r11 0 1) fun l13 => bindR (call 17 [AV.d (D.list 3 l10), AV.agg [AV.d (D.list 1 l12), AV.d (D.list 2 l13)]]) fun r14 => bindB (resB 1 false 1 r14 0 0) fun b15 => bindR (call 18 [AV.d (D.list 3 a0)]) fun r16 => bindL (resO 104 3 1 false 1 r16 0 0) fun l17 => bindR (call 13 [AV.agg [AV.d (D.list 1 a1_0), AV.d (D.list 2 a1_1)]]) fun r18 => bindL (resO 3 1 1 true 2 r18 0 0) fun l19 => bindL (resO 95 2 1 true 2 r18 0 1) fun l20 => bindR (call 19 [AV.d (D.list 3 l17), AV.agg [AV.d (D.list 1 l19), AV.d (D.list 2 l20)]]) fun r21 => bindB (resB 1 false 1 r21 0 0) fun b22 => ite' (!b22 == b15) (some ([(false, [RL.d (D.bool false)])])) (bindR (call 18 [AV.d (D.list 3 a0)]) fun r23 => bindL (resO 104 3 1 false 1 r23 0 0) fun l24 => bindR (call 20 [AV.d (D.list 3 l17), AV.d (D.list 3 l24)]) fun r25 => bindB (resB 1 false 1 r25 0 0) fun b26 => ite' (!b26) (some ([(false, [RL.d (D.bool false)])])) (bindR (call 13 [AV.agg [AV.d (D.list 1 a1_0), AV.d (D.list 2 a1_1)]]) fun r27 => bindL (resO 3 1 1 true 2 r27 0 0) fun l28 => bindL (resO 95 2 1 true 2 r27 0 1) fun l29 => bindR (call 15 [AV.agg [AV.d (D.list 1 l19), AV.d (D.list 2 l20)], AV.agg [AV.d (D.list 1 l28), AV.d (D.list 2 l29)]]) fun r30 => bindB (resB 1 false 1 r30 0 0) fun b31 => ite' (!b31) (some ([(false, [RL.d (D.bool false)])])) (some ([(false, [RL.d (D.bool true)])])))))) := by kernel_rfl
theorem F4.run (k : Nat) (a0 : Ovi.Rows) (a1_0 : Ovi.Rows) (a1_1 : Ovi.Rows) : C (k + 1) 4 [AV.d (D.list 3 a0), AV.agg [AV.d (D.list 1 a1_0), AV.d (D.list 2 a1_1)]] = bindR ((C k) 16 [AV.d (D.list 3 a0), AV.d (D.int IntKind.i64 (1048576 : Int))]) fun r5 => bindI (resI IntKind.i64 1 false 1 r5 0 0) fun n6 => ite' (decide (n6 < (0 : Int))) (some ([(false, [RL.d (D.bool true)])])) (bindR ((C k) 11 [AV.agg [AV.d (D.list 1 a1_0), AV.d (D.list 2 a1_1)], AV.d (D.int IntKind.i64 n6)]) fun r7 => bindI (resI IntKind.i64 1 false 1 r7 0 0) fun n8 => ite' (decide (n8 < (0 : Int))) (some ([(false, [RL.d (D.bool true)])])) (bindR ((C k) 18 [AV.d (D.list 3 a0)]) fun r9 => bindL (resO 104 3 1 false 1 r9 0 0) fun l10 => bindR ((C k) 13 [AV.agg [AV.d (D.list 1 a1_0), AV.d (D.list 2 a1_1)]]) fun r11 => bindL (resO 3 1 1 true 2 r11 0 0) fun l12 => bindL (resO 95 2 1 true 2 r11 0 1) fun l13 => bindR ((C k) 17 [AV.d (D.list 3 l10), AV.agg [AV.d (D.list 1 l12), AV.d (D.list 2 l13)]]) fun r14 => bindB (resB 1 false 1 r14 0 0) fun b15 => bindR ((C k) 18 [AV.d (D.list 3 a0)]) fun r16 => bindL (resO 104 3 1 false 1 r16 0 0) fun l17 => bindR ((C k) 13 [AV.agg [AV.d (D.list 1 a1_0), AV.d (D.list 2 a1_1)]]) fun r18 => bindL (resO 3 1 1 true 2 r18 0 0) fun l19 => bindL (resO 95 2 1 true 2 r18 0 1) fun l20 => bindR ((C k) 19 [AV.d (D.list 3 l17), AV.agg [AV.d (D.list 1 l19), AV.d (D.list 2 l20)]]) fun r21 => bindB (resB 1 false 1 r21 0 0) fun b22 => ite' (!b22 == b15) (some ([(false, [RL.d (D.bool false)])])) (bindR ((C k) 18 [AV.d (D.list 3 a0)]) fun r23 => bindL (resO 104 3 1 false 1 r23 0 0) fun l24 => bindR ((C k) 20 [AV.d (D.list 3 l17), AV.d (D.list 3 l24)]) fun r25 => bindB (resB 1 false 1 r25 0 0) fun b26 => ite' (!b26) (some ([(false, [RL.d (D.bool false)])])) (bindR ((C k) 13 [AV.agg [AV.d (D.list 1 a1_0), AV.d (D.list 2 a1_1)]]) fun r27 => bindL (resO 3 1 1 true 2 r27 0 0) fun l28 => bindL (resO 95 2 1 true 2 r27 0 1) fun l29 => bindR ((C k) 15 [AV.agg [AV.d (D.list 1 l19), AV.d (D.list 2 l20)], AV.agg [AV.d (D.list 1 l28), AV.d (D.list 2 l29)]]) fun r30 => bindB (resB 1 false 1 r30 0 0) fun b31 => ite' (!b31) (some ([(false, [RL.d (D.bool false)])])) (some ([(false, [RL.d (D.bool true)])])))))) := (show C (k + 1) 4 [AV.d (D.list 3 a0), AV.agg [AV.d (D.list 1 a1_0), AV.d (D.list 2 a1_1)]] = evFnK P hs (C k) 4 k Try.f4 [AV.d (D.list 3 a0), AV.agg [AV.d (D.list 1 a1_0), AV.d (D.list 2 a1_1)]] by kernel_rfl).trans (F4.eq k (C k) a0 a1_0 a1_1)
theorem F5.eq (k : Nat) (call : CallF) (a0 : Ovi.Rows) (a1_0 : Ovi.Rows) (a1_1 : Ovi.Rows) (a1_2 : Int) (a1_3 : Int) : evFnK P hs call (5 : FuncId) k Try.f5 [AV.d (D.list 3 a0), AV.agg [AV.d (D.list 1 a1_0), AV.d (D.list 2 a1_1), AV.d (D.int IntKind.i64 a1_2), AV.d (D.int IntKind.i64 a1_3)]] = bindR (call 16 [AV.d (D.list 3 a0), AV.d (D.int IntKind.i64 (1048576 : Int))]) fun r7 => bindI (resI IntKind.i64 1 false 1 r7 0 0) fun n8 => ite' (decide (n8 < (0 : Int))) (some ([(false, [RL.d (D.bool true)])])) (bindR (call 21 [AV.agg [AV.d (D.list 1 a1_0), AV.d (D.list 2 a1_1), AV.d (D.int IntKind.i64 a1_2), AV.d (D.int IntKind.i64 a1_3)], AV.d (D.int IntKind.i64 n8)]) fun r9 => bindI (resI IntKind.i64 1 false 1 r9 0 0) fun n10 => ite' (decide (n10 < (0 : Int))) (some ([(false, [RL.d (D.bool true)])])) (bindR (call 18 [AV.d (D.list 3 a0)]) fun r11 => bindL (resO 104 3 1 false 1 r11 0 0) fun l12 => bindR (call 23 [AV.agg [AV.d (D.list 1 a1_0), AV.d (D.list 2 a1_1), AV.d (D.int IntKind.i64 a1_2), AV.d (D.int IntKind.i64 a1_3)]]) fun r13 => bindL (resO 3 1 1 true 4 r13 0 0) fun l14 => bindL (resO 95 2 1 true 4 r13 0 1) fun l15 => bindI (resI IntKind.i64 1 true 4 r13 0 2) fun n16 => bindI (resI IntKind.i64 1 true 4 r13 0 3) fun n17 => bindR (call 22 [AV.d (D.list 3 l12), AV.agg [AV.d (D.list 1 l14), AV.d (D.list 2 l15), AV.d (D.int IntKind.i64 n16), AV.d (D.int IntKind.i64 n17)]]) fun r18 => bindB (resB 1 false 1 r18 0 0) fun b19 => bindR (call 18 [AV.d (D.list 3 a0)]) fun r20 => bindL (resO 104 3 1 false 1 r20 0 0) fun l21 => bindR (call 23 [AV.agg [AV.d (D.list 1 a1_0), AV.d (D.list 2 a1_1), AV.d (D.int IntKind.i64 a1_2), AV.d (D.int IntKind.i64 a1_3)]]) fun r22 => bindL (resO 3 1 1 true 4 r22 0 0) fun l23 => bindL (resO 95 2 1 true 4 r22 0 1) fun l24 => bindI (resI IntKind.i64 1 true 4 r22 0 2) fun n25 => bindI (resI IntKind.i64 1 true 4 r22 0 3) fun n26 => bindR (call 24 [AV.d (D.list 3 l21), AV.agg [AV.d (D.list 1 l23), AV.d (D.list 2 l24), AV.d (D.int IntKind.i64 n25), AV.d (D.int IntKind.i64 n26)]]) fun r27 => bindB (resB 1 false 1 r27 0 0) fun b28 => ite' (!b28 == b19) (some ([(false, [RL.d (D.bool false)])])) (bindR (call 18 [AV.d (D.list 3 a0)]) fun r29 => bindL (resO 104 3 1 false 1 r29 0 0) fun l30 => bindR (call 20 [AV.d (D.list 3 l21), AV.d (D.list 3 l30)]) fun r31 => bindB (resB 1 false 1 r31 0 0) fun b32 => ite' (!b32) (some ([(false, [RL.d (D.bool false)])])) (bindR (call 23 [AV.agg [AV.d (D.list 1 a1_0), AV.d (D.list 2 a1_1), AV.d (D.int IntKind.i64 a1_2), AV.d (D.int IntKind.i64 a1_3)]]) fun r33 => bindL (resO 3 1 1 true 4 r33 0 0) fun l34 => bindL (resO 95 2 1 true 4 r33 0 1) fun l35 => bindI (resI IntKind.i64 1 true 4 r33 0 2) fun n36 => bindI (resI IntKind.i64 1 true 4 r33 0 3) fun n37 => bindR (call 25 [AV.agg [AV.d (D.list 1 l23), AV.d (D.list 2 l24), AV.d (D.int IntKind.i64 n25), AV.d (D.int IntKind.i64 n26)], AV.agg [AV.d (D.list 1 l34), AV.d (D.list 2 l35), AV.d (D.int IntKind.i64 n36), AV.d (D.int IntKind.i64 n37)]]) fun r38 => bindB (resB 1 false 1 r38 0 0) fun b39 => ite' (!b39) (some ([(false, [RL.d (D.bool false)])])) (some ([(false, [RL.d (D.bool true)])])))))) := by kernel_rfl
theorem F5.run (k : Nat) (a0 : Ovi.Rows) (a1_0 : Ovi.Rows) (a1_1 : Ovi.Rows) (a1_2 : Int) (a1_3 : Int) : C (k + 1) 5 [AV.d (D.list 3 a0), AV.agg [AV.d (D.list 1 a1_0), AV.d (D.list 2 a1_1), AV.d (D.int IntKind.i64 a1_2), AV.d (D.int IntKind.i64 a1_3)]] = bindR ((C k) 16 [AV.d (D.list 3 a0), AV.d (D.int IntKind.i64 (1048576 : Int))]) fun r7 => bindI (resI IntKind.i64 1 false 1 r7 0 0) fun n8 => ite' (decide (n8 < (0 : Int))) (some ([(false, [RL.d (D.bool true)])])) (bindR ((C k) 21 [AV.agg [AV.d (D.list 1 a1_0), AV.d (D.list 2 a1_1), AV.d (D.int IntKind.i64 a1_2), AV.d (D.int IntKind.i64 a1_3)], AV.d (D.int IntKind.i64 n8)]) fun r9 => bindI (resI IntKind.i64 1 false 1 r9 0 0) fun n10 => ite' (decide (n10 < (0 : Int))) (some ([(false, [RL.d (D.bool true)])])) (bindR ((C k) 18 [AV.d (D.list 3 a0)]) fun r11 => bindL (resO 104 3 1 false 1 r11 0 0) fun l12 => bindR ((C k) 23 [AV.agg [AV.d (D.list 1 a1_0), AV.d (D.list 2 a1_1), AV.d (D.int IntKind.i64 a1_2), AV.d (D.int IntKind.i64 a1_3)]]) fun r13 => bindL (resO 3 1 1 true 4 r13 0 0) fun l14 => bindL (resO 95 2 1 true 4 r13 0 1) fun l15 => bindI (resI IntKind.i64 1 true 4 r13 0 2) fun n16 => bindI (resI IntKind.i64 1 true 4 r13 0 3) fun n17 => bindR ((C k) 22 [AV.d (D.list 3 l12), AV.agg [AV.d (D.list 1 l14), AV.d (D.list 2 l15), AV.d (D.int IntKind.i64 n16), AV.d (D.int IntKind.i64 n17)]]) fun r18 => bindB (resB 1 false 1 r18 0 0) fun b19 => bindR ((C k) 18 [AV.d (D.list 3 a0)]) fun r20 => bindL (resO 104 3 1 false 1 r20 0 0) fun l21 => bindR ((C k) 23 [AV.agg [AV.d (D.list 1 a1_0), AV.d (D.list 2 a1_1), AV.d (D.int IntKind.i64 a1_2), AV.d (D.int IntKind.i64 a1_3)]]) fun r22 => bindL (resO 3 1 1 true 4 r22 0 0) fun l23 => bindL (resO 95 2 1 true 4 r22 0 1) fun l24 => bindI (resI IntKind.i64 1 true 4 r22 0 2) fun n25 => bindI (resI IntKind.i64 1 true 4 r22 0 3) fun n26 => bindR ((C k) 24 [AV.d (D.list 3 l21), AV.agg [AV.d (D.list 1 l23), AV.d (D.list 2 l24), AV.d (D.int IntKind.i64 n25), AV.d (D.int IntKind.i64 n26)]]) fun r27 => bindB (resB 1 false 1 r27 0 0) fun b28 => ite' (!b28 == b19) (some ([(false, [RL.d (D.bool false)])])) (bindR ((C k) 18 [AV.d (D.list 3 a0)]) fun r29 => bindL (resO 104 3 1 false 1 r29 0 0) fun l30 => bindR ((C k) 20 [AV.d (D.list 3 l21), AV.d (D.list 3 l30)]) fun r31 => bindB (resB 1 false 1 r31 0 0) fun b32 => ite' (!b32) (some ([(false, [RL.d (D.bool false)])])) (bindR ((C k) 23 [AV.agg [AV.d (D.list 1 a1_0), AV.d (D.list 2 a1_1), AV.d (D.int IntKind.i64 a1_2), AV.d (D.int IntKind.i64 a1_3)]]) fun r33 => bindL (resO 3 1 1 true 4 r33 0 0) fun l34 => bindL (resO 95 2 1 true 4 r33 0 1) fun l35 => bindI (resI IntKind.i64 1 true 4 r33 0 2) fun n36 => bindI (resI IntKind.i64 1 true 4 r33 0 3) fun n37 => bindR ((C k) 25 [AV.agg [AV.d (D.list 1 l23), AV.d (D.list 2 l24), AV.d (D.int IntKind.i64 n25), AV.d (D.int IntKind.i64 n26)], AV.agg [AV.d (D.list 1 l34), AV.d (D.list 2 l35), AV.d (D.int IntKind.i64 n36), AV.d (D.int IntKind.i64 n37)]]) fun r38 => bindB (resB 1 false 1 r38 0 0) fun b39 => ite' (!b39) (some ([(false, [RL.d (D.bool false)])])) (some ([(false, [RL.d (D.bool true)])])))))) := (show C (k + 1) 5 [AV.d (D.list 3 a0), AV.agg [AV.d (D.list 1 a1_0), AV.d (D.list 2 a1_1), AV.d (D.int IntKind.i64 a1_2), AV.d (D.int IntKind.i64 a1_3)]] = evFnK P hs (C k) 5 k Try.f5 [AV.d (D.list 3 a0), AV.agg [AV.d (D.list 1 a1_0), AV.d (D.list 2 a1_1), AV.d (D.int IntKind.i64 a1_2), AV.d (D.int IntKind.i64 a1_3)]] by kernel_rfl).trans (F5.eq k (C k) a0 a1_0 a1_1 a1_2 a1_3)
theorem F11.eq (k : Nat) (call : CallF) (a0_0 : Ovi.Rows) (a0_1 : Ovi.Rows) (a1 : Int) : evFnK P hs call (11 : FuncId) k Try.f11 [AV.agg [AV.d (D.list 1 a0_0), AV.d (D.list 2 a0_1)], AV.d (D.int IntKind.i64 a1)] = bindR (call 52 [AV.d (D.list 1 a0_0), AV.d (D.int IntKind.i64 a1)]) fun r5 => bindI (resI IntKind.i64 1 false 1 r5 0 0) fun n6 => ite' (decide (n6 < (0 : Int))) (some ([(false, [RL.d (D.int IntKind.i64 (-1 : Int))])])) (bindR (call 53 [AV.d (D.list 2 a0_1), AV.d (D.int IntKind.i64 n6)]) fun r7 => bindI (resI IntKind.i64 1 false 1 r7 0 0) fun n8 => ite' (decide (n8 < (0 : Int))) (some ([(false, [RL.d (D.int IntKind.i64 (-1 : Int))])])) (some ([(false, [RL.d (D.int IntKind.i64 n8)])]))) := by kernel_rfl
theorem F11.run (k : Nat) (a0_0 : Ovi.Rows) (a0_1 : Ovi.Rows) (a1 : Int) : C (k + 1) 11 [AV.agg [AV.d (D.list 1 a0_0), AV.d (D.list 2 a0_1)], AV.d (D.int IntKind.i64 a1)] = bindR ((C k) 52 [AV.d (D.list 1 a0_0), AV.d (D.int IntKind.i64 a1)]) fun r5 => bindI (resI IntKind.i64 1 false 1 r5 0 0) fun n6 => ite' (decide (n6 < (0 : Int))) (some ([(false, [RL.d (D.int IntKind.i64 (-1 : Int))])])) (bindR ((C k) 53 [AV.d (D.list 2 a0_1), AV.d (D.int IntKind.i64 n6)]) fun r7 => bindI (resI IntKind.i64 1 false 1 r7 0 0) fun n8 => ite' (decide (n8 < (0 : Int))) (some ([(false, [RL.d (D.int IntKind.i64 (-1 : Int))])])) (some ([(false, [RL.d (D.int IntKind.i64 n8)])]))) := (show C (k + 1) 11 [AV.agg [AV.d (D.list 1 a0_0), AV.d (D.list 2 a0_1)], AV.d (D.int IntKind.i64 a1)] = evFnK P hs (C k) 11 k Try.f11 [AV.agg [AV.d (D.list 1 a0_0), AV.d (D.list 2 a0_1)], AV.d (D.int IntKind.i64 a1)] by kernel_rfl).trans (F11.eq k (C k) a0_0 a0_1 a1)
theorem F13.eq (k : Nat) (call : CallF) (a0_0 : Ovi.Rows) (a0_1 : Ovi.Rows) : evFnK P hs call (13 : FuncId) k Try.f13 [AV.agg [AV.d (D.list 1 a0_0), AV.d (D.list 2 a0_1)]] = bindR (call 29 [AV.d (D.list 1 a0_0)]) fun r4 => bindL (resO 3 1 1 false 1 r4 0 0) fun l5 => bindR (call 56 [AV.d (D.list 2 a0_1)]) fun r6 => bindL (resO 95 2 1 false 1 r6 0 0) fun l7 => some ([(true, [RL.row 3 1 l5, RL.row 95 2 l7])]) := by kernel_rfl
theorem F13.run (k : Nat) (a0_0 : Ovi.Rows) (a0_1 : Ovi.Rows) : C (k + 1) 13 [AV.agg [AV.d (D.list 1 a0_0), AV.d (D.list 2 a0_1)]] = bindR ((C k) 29 [AV.d (D.list 1 a0_0)]) fun r4 => bindL (resO 3 1 1 false 1 r4 0 0) fun l5 => bindR ((C k) 56 [AV.d (D.list 2 a0_1)]) fun r6 => bindL (resO 95 2 1 false 1 r6 0 0) fun l7 => some ([(true, [RL.row 3 1 l5, RL.row 95 2 l7])]) := (show C (k + 1) 13 [AV.agg [AV.d (D.list 1 a0_0), AV.d (D.list 2 a0_1)]] = evFnK P hs (C k) 13 k Try.f13 [AV.agg [AV.d (D.list 1 a0_0), AV.d (D.list 2 a0_1)]] by kernel_rfl).trans (F13.eq k (C k) a0_0 a0_1)
theorem F15.eq (k : Nat) (call : CallF) (a0_0 : Ovi.Rows) (a0_1 : Ovi.Rows) (a1_0 : Ovi.Rows) (a1_1 : Ovi.Rows) : evFnK P hs call (15 : FuncId) k Try.f15 [AV.agg [AV.d (D.list 1 a0_0), AV.d (D.list 2 a0_1)], AV.agg [AV.d (D.list 1 a1_0), AV.d (D.list 2 a1_1)]] = bindR (call 32 [AV.d (D.list 1 a0_0), AV.d (D.list 1 a1_0)]) fun r6 => bindB (resB 1 false 1 r6 0 0) fun b7 => ite' (!b7) (some ([(false, [RL.d (D.bool false)])])) (bindR (call 60 [AV.d (D.list 2 a0_1), AV.d (D.list 2 a1_1)]) fun r8 => bindB (resB 1 false 1 r8 0 0) fun b9 => ite' (!b9) (some ([(false, [RL.d (D.bool false)])])) (some ([(false, [RL.d (D.bool true)])]))) := by kernel_rfl
theorem F15.run (k : Nat) (a0_0 : Ovi.Rows) (a0_1 : Ovi.Rows) (a1_0 : Ovi.Rows) (a1_1 : Ovi.Rows) : C (k + 1) 15 [AV.agg [AV.d (D.list 1 a0_0), AV.d (D.list 2 a0_1)], AV.agg [AV.d (D.list 1 a1_0), AV.d (D.list 2 a1_1)]] = bindR ((C k) 32 [AV.d (D.list 1 a0_0), AV.d (D.list 1 a1_0)]) fun r6 => bindB (resB 1 false 1 r6 0 0) fun b7 => ite' (!b7) (some ([(false, [RL.d (D.bool false)])])) (bindR ((C k) 60 [AV.d (D.list 2 a0_1), AV.d (D.list 2 a1_1)]) fun r8 => bindB (resB 1 false 1 r8 0 0) fun b9 => ite' (!b9) (some ([(false, [RL.d (D.bool false)])])) (some ([(false, [RL.d (D.bool true)])]))) := (show C (k + 1) 15 [AV.agg [AV.d (D.list 1 a0_0), AV.d (D.list 2 a0_1)], AV.agg [AV.d (D.list 1 a1_0), AV.d (D.list 2 a1_1)]] = evFnK P hs (C k) 15 k Try.f15 [AV.agg [AV.d (D.list 1 a0_0), AV.d (D.list 2 a0_1)], AV.agg [AV.d (D.list 1 a1_0), AV.d (D.list 2 a1_1)]] by kernel_rfl).trans (F15.eq k (C k) a0_0 a0_1 a1_0 a1_1)
noncomputable def F16.L5 (k : Nat) (call : CallF)  (n : Nat) (v0 : Ovi.Rows) (v1 : Int) (v2 : Int) : Option Res := loopFn P hs call 16 k Try.f16 [1, 1, 1, 0, 1, 0] [] n [(0, AV.d (D.list 3 v0)), (1, AV.d (D.int IntKind.i64 v1)), (5, AV.d (D.int IntKind.i64 v2))] []
theorem F16.L5.zero (k : Nat) (call : CallF)  (v0 : Ovi.Rows) (v1 : Int) (v2 : Int) : F16.L5 k call  0 v0 v1 v2 = none := by kernel_rfl
theorem F16.L5.succ (k : Nat) (call : CallF)  (n : Nat) (v0 : Ovi.Rows) (v1 : Int) (v2 : Int) : F16.L5 k call  (n + 1) v0 v1 v2 = ite' (decide (v2 < (↑(List.length v0) : Int))) (ite' (inR v2 (List.length v0)) (bindS (cellS v0 v2.toNat 0) fun s8 => bindI (cellI IntKind.i64 v0 v2.toNat 1) fun n9 => bindB (cellB v0 v2.toNat 2) fun b10 => bindR (call 61 [AV.agg [AV.d (D.str s8), AV.d (D.int IntKind.i64 n9), AV.d (D.bool b10)], AV.d (D.int IntKind.i64 v1)]) fun r11 => bindI (resI IntKind.i64 1 false 1 r11 0 0) fun n12 => ite' (decide (n12 < (0 : Int))) (some ([(false, [RL.d (D.int IntKind.i64 (-1 : Int))])])) (F16.L5 k call  (n) (v0) (n12) (IntKind.i64.wrap (v2 + (1 : Int))))) (none)) (some ([(false, [RL.d (D.int IntKind.i64 v1)])])) := by kernel_rfl
theorem F16.eq (k : Nat) (call : CallF) (a0 : Ovi.Rows) (a1 : Int) : evFnK P hs call (16 : FuncId) k Try.f16 [AV.d (D.list 3 a0), AV.d (D.int IntKind.i64 a1)] = ite' (decide (IntKind.i64.wrap (a1 - (↑(List.length a0) : Int)) < (0 : Int))) (some ([(false, [RL.d (D.int IntKind.i64 (-1 : Int))])])) (F16.L5 k call  (k) (a0) (IntKind.i64.wrap (a1 - (↑(List.length a0) : Int))) ((0 : Int))) := by kernel_rfl
theorem F16.run (k : Nat) (a0 : Ovi.Rows) (a1 : Int) : C (k + 1) 16 [AV.d (D.list 3 a0), AV.d (D.int IntKind.i64 a1)] = ite' (decide (IntKind.i64.wrap (a1 - (↑(List.length a0) : Int)) < (0 : Int))) (some ([(false, [RL.d (D.int IntKind.i64 (-1 : Int))])])) (F16.L5 k (C k)  (k) (a0) (IntKind.i64.wrap (a1 - (↑(List.length a0) : Int))) ((0 : Int))) := (show C (k + 1) 16 [AV.d (D.list 3 a0), AV.d (D.int IntKind.i64 a1)] = evFnK P hs (C k) 16 k Try.f16 [AV.d (D.list 3 a0), AV.d (D.int IntKind.i64 a1)] by kernel_rfl).trans (F16.eq k (C k) a0 a1)
noncomputable def F17.L3 (k : Nat) (call : CallF)  (n : Nat) (v0 : Ovi.Rows) (v1 : Ovi.Rows) (v2 : Int) (v3 : Ovi.Rows) (v4 : Ovi.Rows) : Option Res := loopFn P hs call 17 k Try.f17 [1, 1, 0, 1, 0] [] n [(0, AV.d (D.list 3 v0)), (3, AV.var 192 0), (5, AV.d (D.list 1 v1)), (6, AV.d (D.int IntKind.i64 v2))] [(192, Blk.var [AV.d (D.list 1 v3), AV.d (D.list 2 v4)])]
noncomputable def F17.L8 (k : Nat) (call : CallF)  (n : Nat) (v0 : Ovi.Rows) (v1 : Int) (v2 : Ovi.Rows) (v3 : Ovi.Rows) : Option Res := loopFn P hs call 17 k Try.f17 [1, 1, 1, 0, 1, 0] [] n [(3, AV.var 192 0), (5, AV.d (D.list 1 v0)), (7, AV.d (D.int IntKind.i64 v1))] [(192, Blk.var [AV.d (D.list 1 v2), AV.d (D.list 2 v3)])]
theorem F17.L3.zero (k : Nat) (call : CallF)  (v0 : Ovi.Rows) (v1 : Ovi.Rows) (v2 : Int) (v3 : Ovi.Rows) (v4 : Ovi.Rows) : F17.L3 k call  0 v0 v1 v2 v3 v4 = none := by kernel_rfl
theorem F17.L3.succ (k : Nat) (call : CallF)  (n : Nat) (v0 : Ovi.Rows) (v1 : Ovi.Rows) (v2 : Int) (v3 : Ovi.Rows) (v4 : Ovi.Rows) : F17.L3 k call  (n + 1) v0 v1 v2 v3 v4 = ite' (decide (v2 < (↑(List.length v4) : Int))) (ite' (inR v2 (List.length v4)) (bindI (cellI IntKind.i64 v4 v2.toNat 0) fun n11 => bindL (cellL 1 v4 v2.toNat 1) fun l12 => bindR (call 63 [AV.d (D.list 3 v0), AV.agg [AV.d (D.int IntKind.i64 n11), AV.d (D.list 1 l12)]]) fun r13 => bindB (resB 1 false 1 r13 0 0) fun b14 => ite' (!b14) (some ([(false, [RL.d (D.bool false)])])) (F17.L3 k call  (n) (v0) (v1) (IntKind.i64.wrap (v2 + (1 : Int))) (v3) (v4))) (none)) (F17.L8 k call  (k) (v1) ((0 : Int)) (v3) (v4)) := by kernel_rfl
theorem F17.L8.zero (k : Nat) (call : CallF)  (v0 : Ovi.Rows) (v1 : Int) (v2 : Ovi.Rows) (v3 : Ovi.Rows) : F17.L8 k call  0 v0 v1 v2 v3 = none := by kernel_rfl
theorem F17.L8.succ (k : Nat) (call : CallF)  (n : Nat) (v0 : Ovi.Rows) (v1 : Int) (v2 : Ovi.Rows) (v3 : Ovi.Rows) : F17.L8 k call  (n + 1) v0 v1 v2 v3 = ite' (decide (v1 < (↑(List.length v2) : Int))) (ite' (inR v1 (List.length v2)) (bindI (cellI IntKind.i64 v2 v1.toNat 0) fun n10 => bindR (call 64 [AV.d (D.list 1 v0), AV.d (D.int IntKind.i64 n10)]) fun r11 => bindB (resB 1 false 1 r11 0 0) fun b12 => ite' (!b12) (some ([(false, [RL.d (D.bool false)])])) (F17.L8 k call  (n) (v0) (IntKind.i64.wrap (v1 + (1 : Int))) (v2) (v3))) (none)) (bindR (call 65 [AV.d (D.int IntKind.i64 (↑(List.length v3) : Int)), AV.d (D.int IntKind.i64 (1 : Int)), AV.d (D.int IntKind.i64 (3 : Int))]) fun r10 => bindB (resB 1 false 1 r10 0 0) fun b11 => ite' (b11) (some ([(false, [RL.d (D.bool (decide ((↑(List.length v2) : Int) ≤ (3 : Int))))])])) (some ([(false, [RL.d (D.bool false)])]))) := by kernel_rfl
theorem F17.eq (k : Nat) (call : CallF) (a0 : Ovi.Rows) (a1_0 : Ovi.Rows) (a1_1 : Ovi.Rows) : evFnK P hs call (17 : FuncId) k Try.f17 [AV.d (D.list 3 a0), AV.agg [AV.d (D.list 1 a1_0), AV.d (D.list 2 a1_1)]] = bindR (call 62 [AV.d (D.list 2 a1_1)]) fun r5 => bindL (resL 1 1 false 1 r5 0 0) fun l6 => F17.L3 k call  (k) (a0) (l6) ((0 : Int)) (a1_0) (a1_1) := by kernel_rfl
theorem F17.run (k : Nat) (a0 : Ovi.Rows) (a1_0 : Ovi.Rows) (a1_1 : Ovi.Rows) : C (k + 1) 17 [AV.d (D.list 3 a0), AV.agg [AV.d (D.list 1 a1_0), AV.d (D.list 2 a1_1)]] = bindR ((C k) 62 [AV.d (D.list 2 a1_1)]) fun r5 => bindL (resL 1 1 false 1 r5 0 0) fun l6 => F17.L3 k (C k)  (k) (a0) (l6) ((0 : Int)) (a1_0) (a1_1) := (show C (k + 1) 17 [AV.d (D.list 3 a0), AV.agg [AV.d (D.list 1 a1_0), AV.d (D.list 2 a1_1)]] = evFnK P hs (C k) 17 k Try.f17 [AV.d (D.list 3 a0), AV.agg [AV.d (D.list 1 a1_0), AV.d (D.list 2 a1_1)]] by kernel_rfl).trans (F17.eq k (C k) a0 a1_0 a1_1)
noncomputable def F18.L3 (k : Nat) (call : CallF)  (n : Nat) (v0 : Ovi.Rows) (v1 : Int) (v2 : Ovi.Rows) : Option Res := loopFn P hs call 18 k Try.f18 [1, 1, 0, 1, 0] [] n [(0, AV.d (D.list 3 v0)), (3, AV.own 100003 0), (4, AV.d (D.int IntKind.i64 v1))] [(100003, Blk.arr 104 3 0 v2)]
theorem F18.L3.zero (k : Nat) (call : CallF)  (v0 : Ovi.Rows) (v1 : Int) (v2 : Ovi.Rows) : F18.L3 k call  0 v0 v1 v2 = none := by kernel_rfl
theorem F18.L3.succ (k : Nat) (call : CallF)  (n : Nat) (v0 : Ovi.Rows) (v1 : Int) (v2 : Ovi.Rows) : F18.L3 k call  (n + 1) v0 v1 v2 = ite' (decide (v1 < (↑(List.length v0) : Int))) (ite' (inR v1 (List.length v0)) (bindS (cellS v0 v1.toNat 0) fun s7 => bindI (cellI IntKind.i64 v0 v1.toNat 1) fun n8 => bindB (cellB v0 v1.toNat 2) fun b9 => bindR (call 66 [AV.agg [AV.d (D.str s7), AV.d (D.int IntKind.i64 n8), AV.d (D.bool b9)]]) fun r10 => bindS (resS 1 true 3 r10 0 0) fun s11 => bindI (resI IntKind.i64 1 true 3 r10 0 1) fun n12 => bindB (resB 1 true 3 r10 0 2) fun b13 => ite' (inR v1 (List.length v2)) (F18.L3 k call  (n) (v0) (IntKind.i64.wrap (v1 + (1 : Int))) (rowsSet v2 v1.toNat 0 [D.str s11, D.int IntKind.i64 n12, D.bool b13])) (none)) (none)) (some ([(false, [RL.row 104 3 v2])])) := by kernel_rfl
theorem F18.eq (k : Nat) (call : CallF) (a0 : Ovi.Rows) : evFnK P hs call (18 : FuncId) k Try.f18 [AV.d (D.list 3 a0)] = ite' ((↑(List.length a0) : Int) == (↑(List.length a0) : Int)) (ite' (inM (↑(List.length a0) : Int)) (F18.L3 k call  (k) (a0) ((0 : Int)) (rowsOf (↑(List.length a0) : Int) [D.str ([] : List UInt8), D.int IntKind.i64 (0 : Int), D.bool false])) (none)) (none) := by kernel_rfl
theorem F18.run (k : Nat) (a0 : Ovi.Rows) : C (k + 1) 18 [AV.d (D.list 3 a0)] = ite' ((↑(List.length a0) : Int) == (↑(List.length a0) : Int)) (ite' (inM (↑(List.length a0) : Int)) (F18.L3 k (C k)  (k) (a0) ((0 : Int)) (rowsOf (↑(List.length a0) : Int) [D.str ([] : List UInt8), D.int IntKind.i64 (0 : Int), D.bool false])) (none)) (none) := (show C (k + 1) 18 [AV.d (D.list 3 a0)] = evFnK P hs (C k) 18 k Try.f18 [AV.d (D.list 3 a0)] by kernel_rfl).trans (F18.eq k (C k) a0)
theorem F19.eq (k : Nat) (call : CallF) (a0 : Ovi.Rows) (a1_0 : Ovi.Rows) (a1_1 : Ovi.Rows) : evFnK P hs call (19 : FuncId) k Try.f19 [AV.d (D.list 3 a0), AV.agg [AV.d (D.list 1 a1_0), AV.d (D.list 2 a1_1)]] = bindR (call 67 [AV.d (D.list 2 a1_1)]) fun r5 => bindL (resO 3 1 1 false 1 r5 0 0) fun l6 => bindR (call 68 [AV.d (D.list 3 a0), AV.d (D.list 2 a1_1), AV.d (D.int IntKind.i64 (3 : Int))]) fun r7 => bindB (resB 1 false 1 r7 0 0) fun b8 => ite' (b8) (ite' (decide ((↑(List.length a1_0) : Int) ≤ (3 : Int))) (bindR (call 69 [AV.d (D.list 1 a1_0), AV.d (D.fn 70 [[D.list 1 l6]])]) fun r9 => bindB (resB 1 false 1 r9 0 0) fun b10 => some ([(false, [RL.d (D.bool !b10)])])) (some ([(false, [RL.d (D.bool false)])]))) (some ([(false, [RL.d (D.bool false)])])) := by kernel_rfl
theorem F19.run (k : Nat) (a0 : Ovi.Rows) (a1_0 : Ovi.Rows) (a1_1 : Ovi.Rows) : C (k + 1) 19 [AV.d (D.list 3 a0), AV.agg [AV.d (D.list 1 a1_0), AV.d (D.list 2 a1_1)]] = bindR ((C k) 67 [AV.d (D.list 2 a1_1)]) fun r5 => bindL (resO 3 1 1 false 1 r5 0 0) fun l6 => bindR ((C k) 68 [AV.d (D.list 3 a0), AV.d (D.list 2 a1_1), AV.d (D.int IntKind.i64 (3 : Int))]) fun r7 => bindB (resB 1 false 1 r7 0 0) fun b8 => ite' (b8) (ite' (decide ((↑(List.length a1_0) : Int) ≤ (3 : Int))) (bindR ((C k) 69 [AV.d (D.list 1 a1_0), AV.d (D.fn 70 [[D.list 1 l6]])]) fun r9 => bindB (resB 1 false 1 r9 0 0) fun b10 => some ([(false, [RL.d (D.bool !b10)])])) (some ([(false, [RL.d (D.bool false)])]))) (some ([(false, [RL.d (D.bool false)])])) := (show C (k + 1) 19 [AV.d (D.list 3 a0), AV.agg [AV.d (D.list 1 a1_0), AV.d (D.list 2 a1_1)]] = evFnK P hs (C k) 19 k Try.f19 [AV.d (D.list 3 a0), AV.agg [AV.d (D.list 1 a1_0), AV.d (D.list 2 a1_1)]] by kernel_rfl).trans (F19.eq k (C k) a0 a1_0 a1_1)
noncomputable def F20.L4 (k : Nat) (call : CallF)  (n : Nat) (v0 : Ovi.Rows) (v1 : Ovi.Rows) (v2 : Int) : Option Res := loopFn P hs call 20 k Try.f20 [1, 1, 0, 1, 0] [] n [(0, AV.d (D.list 3 v0)), (1, AV.d (D.list 3 v1)), (5, AV.d (D.int IntKind.i64 v2))] []
theorem F20.L4.zero (k : Nat) (call : CallF)  (v0 : Ovi.Rows) (v1 : Ovi.Rows) (v2 : Int) : F20.L4 k call  0 v0 v1 v2 = none := by kernel_rfl
theorem F20.L4.succ (k : Nat) (call : CallF)  (n : Nat) (v0 : Ovi.Rows) (v1 : Ovi.Rows) (v2 : Int) : F20.L4 k call  (n + 1) v0 v1 v2 = ite' (decide (v2 < (↑(List.length v0) : Int))) (ite' (inR v2 (List.length v0)) (bindS (cellS v0 v2.toNat 0) fun s8 => bindI (cellI IntKind.i64 v0 v2.toNat 1) fun n9 => bindB (cellB v0 v2.toNat 2) fun b10 => ite' (inR v2 (List.length v1)) (bindS (cellS v1 v2.toNat 0) fun s11 => bindI (cellI IntKind.i64 v1 v2.toNat 1) fun n12 => bindB (cellB v1 v2.toNat 2) fun b13 => bindR (call 72 [AV.agg [AV.d (D.str s8), AV.d (D.int IntKind.i64 n9), AV.d (D.bool b10)], AV.agg [AV.d (D.str s11), AV.d (D.int IntKind.i64 n12), AV.d (D.bool b13)]]) fun r14 => bindB (resB 1 false 1 r14 0 0) fun b15 => ite' (!b15) (some ([(false, [RL.d (D.bool false)])])) (F20.L4 k call  (n) (v0) (v1) (IntKind.i64.wrap (v2 + (1 : Int))))) (none)) (none)) (some ([(false, [RL.d (D.bool true)])])) := by kernel_rfl
theorem F20.eq (k : Nat) (call : CallF) (a0 : Ovi.Rows) (a1 : Ovi.Rows) : evFnK P hs call (20 : FuncId) k Try.f20 [AV.d (D.list 3 a0), AV.d (D.list 3 a1)] = ite' ((↑(List.length a0) : Int) != (↑(List.length a1) : Int)) (some ([(false, [RL.d (D.bool false)])])) (F20.L4 k call  (k) (a0) (a1) ((0 : Int))) := by kernel_rfl
theorem F20.run (k : Nat) (a0 : Ovi.Rows) (a1 : Ovi.Rows) : C (k + 1) 20 [AV.d (D.list 3 a0), AV.d (D.list 3 a1)] = ite' ((↑(List.length a0) : Int) != (↑(List.length a1) : Int)) (some ([(false, [RL.d (D.bool false)])])) (F20.L4 k (C k)  (k) (a0) (a1) ((0 : Int))) := (show C (k + 1) 20 [AV.d (D.list 3 a0), AV.d (D.list 3 a1)] = evFnK P hs (C k) 20 k Try.f20 [AV.d (D.list 3 a0), AV.d (D.list 3 a1)] by kernel_rfl).trans (F20.eq k (C k) a0 a1)
theorem F21.eq (k : Nat) (call : CallF) (a0_0 : Ovi.Rows) (a0_1 : Ovi.Rows) (a0_2 : Int) (a0_3 : Int) (a1 : Int) : evFnK P hs call (21 : FuncId) k Try.f21 [AV.agg [AV.d (D.list 1 a0_0), AV.d (D.list 2 a0_1), AV.d (D.int IntKind.i64 a0_2), AV.d (D.int IntKind.i64 a0_3)], AV.d (D.int IntKind.i64 a1)] = bindR (call 11 [AV.agg [AV.d (D.list 1 a0_0), AV.d (D.list 2 a0_1)], AV.d (D.int IntKind.i64 a1)]) fun r7 => bindI (resI IntKind.i64 1 false 1 r7 0 0) fun n8 => ite' (decide (n8 < (0 : Int))) (some ([(false, [RL.d (D.int IntKind.i64 (-1 : Int))])])) (some ([(false, [RL.d (D.int IntKind.i64 n8)])])) := by kernel_rfl
theorem F21.run (k : Nat) (a0_0 : Ovi.Rows) (a0_1 : Ovi.Rows) (a0_2 : Int) (a0_3 : Int) (a1 : Int) : C (k + 1) 21 [AV.agg [AV.d (D.list 1 a0_0), AV.d (D.list 2 a0_1), AV.d (D.int IntKind.i64 a0_2), AV.d (D.int IntKind.i64 a0_3)], AV.d (D.int IntKind.i64 a1)] = bindR ((C k) 11 [AV.agg [AV.d (D.list 1 a0_0), AV.d (D.list 2 a0_1)], AV.d (D.int IntKind.i64 a1)]) fun r7 => bindI (resI IntKind.i64 1 false 1 r7 0 0) fun n8 => ite' (decide (n8 < (0 : Int))) (some ([(false, [RL.d (D.int IntKind.i64 (-1 : Int))])])) (some ([(false, [RL.d (D.int IntKind.i64 n8)])])) := (show C (k + 1) 21 [AV.agg [AV.d (D.list 1 a0_0), AV.d (D.list 2 a0_1), AV.d (D.int IntKind.i64 a0_2), AV.d (D.int IntKind.i64 a0_3)], AV.d (D.int IntKind.i64 a1)] = evFnK P hs (C k) 21 k Try.f21 [AV.agg [AV.d (D.list 1 a0_0), AV.d (D.list 2 a0_1), AV.d (D.int IntKind.i64 a0_2), AV.d (D.int IntKind.i64 a0_3)], AV.d (D.int IntKind.i64 a1)] by kernel_rfl).trans (F21.eq k (C k) a0_0 a0_1 a0_2 a0_3 a1)
theorem F22.eq (k : Nat) (call : CallF) (a0 : Ovi.Rows) (a1_0 : Ovi.Rows) (a1_1 : Ovi.Rows) (a1_2 : Int) (a1_3 : Int) : evFnK P hs call (22 : FuncId) k Try.f22 [AV.d (D.list 3 a0), AV.agg [AV.d (D.list 1 a1_0), AV.d (D.list 2 a1_1), AV.d (D.int IntKind.i64 a1_2), AV.d (D.int IntKind.i64 a1_3)]] = bindR (call 62 [AV.d (D.list 2 a1_1)]) fun r7 => bindL (resL 1 1 false 1 r7 0 0) fun l8 => bindR (call 17 [AV.d (D.list 3 a0), AV.agg [AV.d (D.list 1 a1_0), AV.d (D.list 2 a1_1)]]) fun r9 => bindB (resB 1 false 1 r9 0 0) fun b10 => ite' (b10) (bindR (call 64 [AV.d (D.list 1 l8), AV.d (D.int IntKind.i64 a1_2)]) fun r11 => bindB (resB 1 false 1 r11 0 0) fun b12 => ite' (b12) (bindR (call 64 [AV.d (D.list 1 l8), AV.d (D.int IntKind.i64 a1_3)]) fun r13 => bindB (resB 1 false 1 r13 0 0) fun b14 => ite' (b14) (some ([(false, [RL.d (D.bool (a1_2 != a1_3))])])) (some ([(false, [RL.d (D.bool false)])]))) (some ([(false, [RL.d (D.bool false)])]))) (some ([(false, [RL.d (D.bool false)])])) := by kernel_rfl
theorem F22.run (k : Nat) (a0 : Ovi.Rows) (a1_0 : Ovi.Rows) (a1_1 : Ovi.Rows) (a1_2 : Int) (a1_3 : Int) : C (k + 1) 22 [AV.d (D.list 3 a0), AV.agg [AV.d (D.list 1 a1_0), AV.d (D.list 2 a1_1), AV.d (D.int IntKind.i64 a1_2), AV.d (D.int IntKind.i64 a1_3)]] = bindR ((C k) 62 [AV.d (D.list 2 a1_1)]) fun r7 => bindL (resL 1 1 false 1 r7 0 0) fun l8 => bindR ((C k) 17 [AV.d (D.list 3 a0), AV.agg [AV.d (D.list 1 a1_0), AV.d (D.list 2 a1_1)]]) fun r9 => bindB (resB 1 false 1 r9 0 0) fun b10 => ite' (b10) (bindR ((C k) 64 [AV.d (D.list 1 l8), AV.d (D.int IntKind.i64 a1_2)]) fun r11 => bindB (resB 1 false 1 r11 0 0) fun b12 => ite' (b12) (bindR ((C k) 64 [AV.d (D.list 1 l8), AV.d (D.int IntKind.i64 a1_3)]) fun r13 => bindB (resB 1 false 1 r13 0 0) fun b14 => ite' (b14) (some ([(false, [RL.d (D.bool (a1_2 != a1_3))])])) (some ([(false, [RL.d (D.bool false)])]))) (some ([(false, [RL.d (D.bool false)])]))) (some ([(false, [RL.d (D.bool false)])])) := (show C (k + 1) 22 [AV.d (D.list 3 a0), AV.agg [AV.d (D.list 1 a1_0), AV.d (D.list 2 a1_1), AV.d (D.int IntKind.i64 a1_2), AV.d (D.int IntKind.i64 a1_3)]] = evFnK P hs (C k) 22 k Try.f22 [AV.d (D.list 3 a0), AV.agg [AV.d (D.list 1 a1_0), AV.d (D.list 2 a1_1), AV.d (D.int IntKind.i64 a1_2), AV.d (D.int IntKind.i64 a1_3)]] by kernel_rfl).trans (F22.eq k (C k) a0 a1_0 a1_1 a1_2 a1_3)
theorem F23.eq (k : Nat) (call : CallF) (a0_0 : Ovi.Rows) (a0_1 : Ovi.Rows) (a0_2 : Int) (a0_3 : Int) : evFnK P hs call (23 : FuncId) k Try.f23 [AV.agg [AV.d (D.list 1 a0_0), AV.d (D.list 2 a0_1), AV.d (D.int IntKind.i64 a0_2), AV.d (D.int IntKind.i64 a0_3)]] = bindR (call 13 [AV.agg [AV.d (D.list 1 a0_0), AV.d (D.list 2 a0_1)]]) fun r6 => bindL (resO 3 1 1 true 2 r6 0 0) fun l7 => bindL (resO 95 2 1 true 2 r6 0 1) fun l8 => some ([(true, [RL.row 3 1 l7, RL.row 95 2 l8, RL.d (D.int IntKind.i64 a0_2), RL.d (D.int IntKind.i64 a0_3)])]) := by kernel_rfl
theorem F23.run (k : Nat) (a0_0 : Ovi.Rows) (a0_1 : Ovi.Rows) (a0_2 : Int) (a0_3 : Int) : C (k + 1) 23 [AV.agg [AV.d (D.list 1 a0_0), AV.d (D.list 2 a0_1), AV.d (D.int IntKind.i64 a0_2), AV.d (D.int IntKind.i64 a0_3)]] = bindR ((C k) 13 [AV.agg [AV.d (D.list 1 a0_0), AV.d (D.list 2 a0_1)]]) fun r6 => bindL (resO 3 1 1 true 2 r6 0 0) fun l7 => bindL (resO 95 2 1 true 2 r6 0 1) fun l8 => some ([(true, [RL.row 3 1 l7, RL.row 95 2 l8, RL.d (D.int IntKind.i64 a0_2), RL.d (D.int IntKind.i64 a0_3)])]) := (show C (k + 1) 23 [AV.agg [AV.d (D.list 1 a0_0), AV.d (D.list 2 a0_1), AV.d (D.int IntKind.i64 a0_2), AV.d (D.int IntKind.i64 a0_3)]] = evFnK P hs (C k) 23 k Try.f23 [AV.agg [AV.d (D.list 1 a0_0), AV.d (D.list 2 a0_1), AV.d (D.int IntKind.i64 a0_2), AV.d (D.int IntKind.i64 a0_3)]] by kernel_rfl).trans (F23.eq k (C k) a0_0 a0_1 a0_2 a0_3)
theorem F24.eq (k : Nat) (call : CallF) (a0 : Ovi.Rows) (a1_0 : Ovi.Rows) (a1_1 : Ovi.Rows) (a1_2 : Int) (a1_3 : Int) : evFnK P hs call (24 : FuncId) k Try.f24 [AV.d (D.list 3 a0), AV.agg [AV.d (D.list 1 a1_0), AV.d (D.list 2 a1_1), AV.d (D.int IntKind.i64 a1_2), AV.d (D.int IntKind.i64 a1_3)]] = bindR (call 67 [AV.d (D.list 2 a1_1)]) fun r7 => bindL (resO 3 1 1 false 1 r7 0 0) fun l8 => bindR (call 19 [AV.d (D.list 3 a0), AV.agg [AV.d (D.list 1 a1_0), AV.d (D.list 2 a1_1)]]) fun r9 => bindB (resB 1 false 1 r9 0 0) fun b10 => ite' (b10) (ite' (a1_2 != a1_3) (bindR (call 71 [AV.d (D.list 1 l8), AV.d (D.int IntKind.i64 a1_2)]) fun r11 => bindB (resB 1 false 1 r11 0 0) fun b12 => ite' (b12) (bindR (call 71 [AV.d (D.list 1 l8), AV.d (D.int IntKind.i64 a1_3)]) fun r13 => bindB (resB 1 false 1 r13 0 0) fun b14 => some ([(false, [RL.d (D.bool b14)])])) (some ([(false, [RL.d (D.bool false)])]))) (some ([(false, [RL.d (D.bool false)])]))) (some ([(false, [RL.d (D.bool false)])])) := by kernel_rfl
theorem F24.run (k : Nat) (a0 : Ovi.Rows) (a1_0 : Ovi.Rows) (a1_1 : Ovi.Rows) (a1_2 : Int) (a1_3 : Int) : C (k + 1) 24 [AV.d (D.list 3 a0), AV.agg [AV.d (D.list 1 a1_0), AV.d (D.list 2 a1_1), AV.d (D.int IntKind.i64 a1_2), AV.d (D.int IntKind.i64 a1_3)]] = bindR ((C k) 67 [AV.d (D.list 2 a1_1)]) fun r7 => bindL (resO 3 1 1 false 1 r7 0 0) fun l8 => bindR ((C k) 19 [AV.d (D.list 3 a0), AV.agg [AV.d (D.list 1 a1_0), AV.d (D.list 2 a1_1)]]) fun r9 => bindB (resB 1 false 1 r9 0 0) fun b10 => ite' (b10) (ite' (a1_2 != a1_3) (bindR ((C k) 71 [AV.d (D.list 1 l8), AV.d (D.int IntKind.i64 a1_2)]) fun r11 => bindB (resB 1 false 1 r11 0 0) fun b12 => ite' (b12) (bindR ((C k) 71 [AV.d (D.list 1 l8), AV.d (D.int IntKind.i64 a1_3)]) fun r13 => bindB (resB 1 false 1 r13 0 0) fun b14 => some ([(false, [RL.d (D.bool b14)])])) (some ([(false, [RL.d (D.bool false)])]))) (some ([(false, [RL.d (D.bool false)])]))) (some ([(false, [RL.d (D.bool false)])])) := (show C (k + 1) 24 [AV.d (D.list 3 a0), AV.agg [AV.d (D.list 1 a1_0), AV.d (D.list 2 a1_1), AV.d (D.int IntKind.i64 a1_2), AV.d (D.int IntKind.i64 a1_3)]] = evFnK P hs (C k) 24 k Try.f24 [AV.d (D.list 3 a0), AV.agg [AV.d (D.list 1 a1_0), AV.d (D.list 2 a1_1), AV.d (D.int IntKind.i64 a1_2), AV.d (D.int IntKind.i64 a1_3)]] by kernel_rfl).trans (F24.eq k (C k) a0 a1_0 a1_1 a1_2 a1_3)
theorem F25.eq (k : Nat) (call : CallF) (a0_0 : Ovi.Rows) (a0_1 : Ovi.Rows) (a0_2 : Int) (a0_3 : Int) (a1_0 : Ovi.Rows) (a1_1 : Ovi.Rows) (a1_2 : Int) (a1_3 : Int) : evFnK P hs call (25 : FuncId) k Try.f25 [AV.agg [AV.d (D.list 1 a0_0), AV.d (D.list 2 a0_1), AV.d (D.int IntKind.i64 a0_2), AV.d (D.int IntKind.i64 a0_3)], AV.agg [AV.d (D.list 1 a1_0), AV.d (D.list 2 a1_1), AV.d (D.int IntKind.i64 a1_2), AV.d (D.int IntKind.i64 a1_3)]] = bindR (call 15 [AV.agg [AV.d (D.list 1 a0_0), AV.d (D.list 2 a0_1)], AV.agg [AV.d (D.list 1 a1_0), AV.d (D.list 2 a1_1)]]) fun r10 => bindB (resB 1 false 1 r10 0 0) fun b11 => ite' (!b11) (some ([(false, [RL.d (D.bool false)])])) (ite' (a0_2 != a1_2) (some ([(false, [RL.d (D.bool false)])])) (ite' (a0_3 != a1_3) (some ([(false, [RL.d (D.bool false)])])) (some ([(false, [RL.d (D.bool true)])])))) := by kernel_rfl
theorem F25.run (k : Nat) (a0_0 : Ovi.Rows) (a0_1 : Ovi.Rows) (a0_2 : Int) (a0_3 : Int) (a1_0 : Ovi.Rows) (a1_1 : Ovi.Rows) (a1_2 : Int) (a1_3 : Int) : C (k + 1) 25 [AV.agg [AV.d (D.list 1 a0_0), AV.d (D.list 2 a0_1), AV.d (D.int IntKind.i64 a0_2), AV.d (D.int IntKind.i64 a0_3)], AV.agg [AV.d (D.list 1 a1_0), AV.d (D.list 2 a1_1), AV.d (D.int IntKind.i64 a1_2), AV.d (D.int IntKind.i64 a1_3)]] = bindR ((C k) 15 [AV.agg [AV.d (D.list 1 a0_0), AV.d (D.list 2 a0_1)], AV.agg [AV.d (D.list 1 a1_0), AV.d (D.list 2 a1_1)]]) fun r10 => bindB (resB 1 false 1 r10 0 0) fun b11 => ite' (!b11) (some ([(false, [RL.d (D.bool false)])])) (ite' (a0_2 != a1_2) (some ([(false, [RL.d (D.bool false)])])) (ite' (a0_3 != a1_3) (some ([(false, [RL.d (D.bool false)])])) (some ([(false, [RL.d (D.bool true)])])))) := (show C (k + 1) 25 [AV.agg [AV.d (D.list 1 a0_0), AV.d (D.list 2 a0_1), AV.d (D.int IntKind.i64 a0_2), AV.d (D.int IntKind.i64 a0_3)], AV.agg [AV.d (D.list 1 a1_0), AV.d (D.list 2 a1_1), AV.d (D.int IntKind.i64 a1_2), AV.d (D.int IntKind.i64 a1_3)]] = evFnK P hs (C k) 25 k Try.f25 [AV.agg [AV.d (D.list 1 a0_0), AV.d (D.list 2 a0_1), AV.d (D.int IntKind.i64 a0_2), AV.d (D.int IntKind.i64 a0_3)], AV.agg [AV.d (D.list 1 a1_0), AV.d (D.list 2 a1_1), AV.d (D.int IntKind.i64 a1_2), AV.d (D.int IntKind.i64 a1_3)]] by kernel_rfl).trans (F25.eq k (C k) a0_0 a0_1 a0_2 a0_3 a1_0 a1_1 a1_2 a1_3)
noncomputable def F29.L3 (k : Nat) (call : CallF)  (n : Nat) (v0 : Ovi.Rows) (v1 : Int) (v2 : Ovi.Rows) : Option Res := loopFn P hs call 29 k Try.f29 [1, 1, 0, 1, 0] [] n [(0, AV.d (D.list 1 v0)), (3, AV.own 100003 0), (4, AV.d (D.int IntKind.i64 v1))] [(100003, Blk.arr 3 1 0 v2)]
theorem F29.L3.zero (k : Nat) (call : CallF)  (v0 : Ovi.Rows) (v1 : Int) (v2 : Ovi.Rows) : F29.L3 k call  0 v0 v1 v2 = none := by kernel_rfl
theorem F29.L3.succ (k : Nat) (call : CallF)  (n : Nat) (v0 : Ovi.Rows) (v1 : Int) (v2 : Ovi.Rows) : F29.L3 k call  (n + 1) v0 v1 v2 = ite' (decide (v1 < (↑(List.length v0) : Int))) (ite' (inR v1 (List.length v0)) (bindI (cellI IntKind.i64 v0 v1.toNat 0) fun n7 => ite' (inR v1 (List.length v2)) (F29.L3 k call  (n) (v0) (IntKind.i64.wrap (v1 + (1 : Int))) (rowsSet v2 v1.toNat 0 [D.int IntKind.i64 n7])) (none)) (none)) (some ([(false, [RL.row 3 1 v2])])) := by kernel_rfl
theorem F29.eq (k : Nat) (call : CallF) (a0 : Ovi.Rows) : evFnK P hs call (29 : FuncId) k Try.f29 [AV.d (D.list 1 a0)] = ite' ((↑(List.length a0) : Int) == (↑(List.length a0) : Int)) (ite' (inM (↑(List.length a0) : Int)) (F29.L3 k call  (k) (a0) ((0 : Int)) (rowsOf (↑(List.length a0) : Int) [D.int IntKind.i64 (0 : Int)])) (none)) (none) := by kernel_rfl
theorem F29.run (k : Nat) (a0 : Ovi.Rows) : C (k + 1) 29 [AV.d (D.list 1 a0)] = ite' ((↑(List.length a0) : Int) == (↑(List.length a0) : Int)) (ite' (inM (↑(List.length a0) : Int)) (F29.L3 k (C k)  (k) (a0) ((0 : Int)) (rowsOf (↑(List.length a0) : Int) [D.int IntKind.i64 (0 : Int)])) (none)) (none) := (show C (k + 1) 29 [AV.d (D.list 1 a0)] = evFnK P hs (C k) 29 k Try.f29 [AV.d (D.list 1 a0)] by kernel_rfl).trans (F29.eq k (C k) a0)
noncomputable def F32.L4 (k : Nat) (call : CallF)  (n : Nat) (v0 : Ovi.Rows) (v1 : Ovi.Rows) (v2 : Int) : Option Res := loopFn P hs call 32 k Try.f32 [1, 1, 0, 1, 0] [] n [(0, AV.d (D.list 1 v0)), (1, AV.d (D.list 1 v1)), (5, AV.d (D.int IntKind.i64 v2))] []
theorem F32.L4.zero (k : Nat) (call : CallF)  (v0 : Ovi.Rows) (v1 : Ovi.Rows) (v2 : Int) : F32.L4 k call  0 v0 v1 v2 = none := by kernel_rfl
theorem F32.L4.succ (k : Nat) (call : CallF)  (n : Nat) (v0 : Ovi.Rows) (v1 : Ovi.Rows) (v2 : Int) : F32.L4 k call  (n + 1) v0 v1 v2 = ite' (decide (v2 < (↑(List.length v0) : Int))) (ite' (inR v2 (List.length v0)) (bindI (cellI IntKind.i64 v0 v2.toNat 0) fun n8 => ite' (inR v2 (List.length v1)) (bindI (cellI IntKind.i64 v1 v2.toNat 0) fun n9 => ite' (n8 != n9) (some ([(false, [RL.d (D.bool false)])])) (F32.L4 k call  (n) (v0) (v1) (IntKind.i64.wrap (v2 + (1 : Int))))) (none)) (none)) (some ([(false, [RL.d (D.bool true)])])) := by kernel_rfl
theorem F32.eq (k : Nat) (call : CallF) (a0 : Ovi.Rows) (a1 : Ovi.Rows) : evFnK P hs call (32 : FuncId) k Try.f32 [AV.d (D.list 1 a0), AV.d (D.list 1 a1)] = ite' ((↑(List.length a0) : Int) != (↑(List.length a1) : Int)) (some ([(false, [RL.d (D.bool false)])])) (F32.L4 k call  (k) (a0) (a1) ((0 : Int))) := by kernel_rfl
theorem F32.run (k : Nat) (a0 : Ovi.Rows) (a1 : Ovi.Rows) : C (k + 1) 32 [AV.d (D.list 1 a0), AV.d (D.list 1 a1)] = ite' ((↑(List.length a0) : Int) != (↑(List.length a1) : Int)) (some ([(false, [RL.d (D.bool false)])])) (F32.L4 k (C k)  (k) (a0) (a1) ((0 : Int))) := (show C (k + 1) 32 [AV.d (D.list 1 a0), AV.d (D.list 1 a1)] = evFnK P hs (C k) 32 k Try.f32 [AV.d (D.list 1 a0), AV.d (D.list 1 a1)] by kernel_rfl).trans (F32.eq k (C k) a0 a1)
theorem F52.eq (k : Nat) (call : CallF) (a0 : Ovi.Rows) (a1 : Int) : evFnK P hs call (52 : FuncId) k Try.f52 [AV.d (D.list 1 a0), AV.d (D.int IntKind.i64 a1)] = ite' (decide (IntKind.i64.wrap (a1 - (↑(List.length a0) : Int)) < (0 : Int))) (some ([(false, [RL.d (D.int IntKind.i64 (-1 : Int))])])) (some ([(false, [RL.d (D.int IntKind.i64 (IntKind.i64.wrap (a1 - (↑(List.length a0) : Int))))])])) := by kernel_rfl
theorem F52.run (k : Nat) (a0 : Ovi.Rows) (a1 : Int) : C (k + 1) 52 [AV.d (D.list 1 a0), AV.d (D.int IntKind.i64 a1)] = ite' (decide (IntKind.i64.wrap (a1 - (↑(List.length a0) : Int)) < (0 : Int))) (some ([(false, [RL.d (D.int IntKind.i64 (-1 : Int))])])) (some ([(false, [RL.d (D.int IntKind.i64 (IntKind.i64.wrap (a1 - (↑(List.length a0) : Int))))])])) := (show C (k + 1) 52 [AV.d (D.list 1 a0), AV.d (D.int IntKind.i64 a1)] = evFnK P hs (C k) 52 k Try.f52 [AV.d (D.list 1 a0), AV.d (D.int IntKind.i64 a1)] by kernel_rfl).trans (F52.eq k (C k) a0 a1)
noncomputable def F53.L5 (k : Nat) (call : CallF)  (n : Nat) (v0 : Ovi.Rows) (v1 : Int) (v2 : Int) : Option Res := loopFn P hs call 53 k Try.f53 [1, 1, 1, 0, 1, 0] [] n [(0, AV.d (D.list 2 v0)), (1, AV.d (D.int IntKind.i64 v1)), (5, AV.d (D.int IntKind.i64 v2))] []
theorem F53.L5.zero (k : Nat) (call : CallF)  (v0 : Ovi.Rows) (v1 : Int) (v2 : Int) : F53.L5 k call  0 v0 v1 v2 = none := by kernel_rfl
theorem F53.L5.succ (k : Nat) (call : CallF)  (n : Nat) (v0 : Ovi.Rows) (v1 : Int) (v2 : Int) : F53.L5 k call  (n + 1) v0 v1 v2 = ite' (decide (v2 < (↑(List.length v0) : Int))) (ite' (inR v2 (List.length v0)) (bindI (cellI IntKind.i64 v0 v2.toNat 0) fun n8 => bindL (cellL 1 v0 v2.toNat 1) fun l9 => bindR (call 106 [AV.agg [AV.d (D.int IntKind.i64 n8), AV.d (D.list 1 l9)], AV.d (D.int IntKind.i64 v1)]) fun r10 => bindI (resI IntKind.i64 1 false 1 r10 0 0) fun n11 => ite' (decide (n11 < (0 : Int))) (some ([(false, [RL.d (D.int IntKind.i64 (-1 : Int))])])) (F53.L5 k call  (n) (v0) (n11) (IntKind.i64.wrap (v2 + (1 : Int))))) (none)) (some ([(false, [RL.d (D.int IntKind.i64 v1)])])) := by kernel_rfl
theorem F53.eq (k : Nat) (call : CallF) (a0 : Ovi.Rows) (a1 : Int) : evFnK P hs call (53 : FuncId) k Try.f53 [AV.d (D.list 2 a0), AV.d (D.int IntKind.i64 a1)] = ite' (decide (IntKind.i64.wrap (a1 - (↑(List.length a0) : Int)) < (0 : Int))) (some ([(false, [RL.d (D.int IntKind.i64 (-1 : Int))])])) (F53.L5 k call  (k) (a0) (IntKind.i64.wrap (a1 - (↑(List.length a0) : Int))) ((0 : Int))) := by kernel_rfl
theorem F53.run (k : Nat) (a0 : Ovi.Rows) (a1 : Int) : C (k + 1) 53 [AV.d (D.list 2 a0), AV.d (D.int IntKind.i64 a1)] = ite' (decide (IntKind.i64.wrap (a1 - (↑(List.length a0) : Int)) < (0 : Int))) (some ([(false, [RL.d (D.int IntKind.i64 (-1 : Int))])])) (F53.L5 k (C k)  (k) (a0) (IntKind.i64.wrap (a1 - (↑(List.length a0) : Int))) ((0 : Int))) := (show C (k + 1) 53 [AV.d (D.list 2 a0), AV.d (D.int IntKind.i64 a1)] = evFnK P hs (C k) 53 k Try.f53 [AV.d (D.list 2 a0), AV.d (D.int IntKind.i64 a1)] by kernel_rfl).trans (F53.eq k (C k) a0 a1)
noncomputable def F56.L3 (k : Nat) (call : CallF)  (n : Nat) (v0 : Ovi.Rows) (v1 : Int) (v2 : Ovi.Rows) : Option Res := loopFn P hs call 56 k Try.f56 [1, 1, 0, 1, 0] [] n [(0, AV.d (D.list 2 v0)), (3, AV.own 100003 0), (4, AV.d (D.int IntKind.i64 v1))] [(100003, Blk.arr 95 2 0 v2)]
theorem F56.L3.zero (k : Nat) (call : CallF)  (v0 : Ovi.Rows) (v1 : Int) (v2 : Ovi.Rows) : F56.L3 k call  0 v0 v1 v2 = none := by kernel_rfl
theorem F56.L3.succ (k : Nat) (call : CallF)  (n : Nat) (v0 : Ovi.Rows) (v1 : Int) (v2 : Ovi.Rows) : F56.L3 k call  (n + 1) v0 v1 v2 = ite' (decide (v1 < (↑(List.length v0) : Int))) (ite' (inR v1 (List.length v0)) (bindI (cellI IntKind.i64 v0 v1.toNat 0) fun n7 => bindL (cellL 1 v0 v1.toNat 1) fun l8 => bindR (call 107 [AV.agg [AV.d (D.int IntKind.i64 n7), AV.d (D.list 1 l8)]]) fun r9 => bindI (resI IntKind.i64 1 true 2 r9 0 0) fun n10 => bindL (resO 3 1 1 true 2 r9 0 1) fun l11 => ite' (inR v1 (List.length v2)) (F56.L3 k call  (n) (v0) (IntKind.i64.wrap (v1 + (1 : Int))) (rowsSet v2 v1.toNat 0 [D.int IntKind.i64 n10, D.list 1 l11])) (none)) (none)) (some ([(false, [RL.row 95 2 v2])])) := by kernel_rfl
theorem F56.eq (k : Nat) (call : CallF) (a0 : Ovi.Rows) : evFnK P hs call (56 : FuncId) k Try.f56 [AV.d (D.list 2 a0)] = ite' ((↑(List.length a0) : Int) == (↑(List.length a0) : Int)) (ite' (inM (↑(List.length a0) : Int)) (F56.L3 k call  (k) (a0) ((0 : Int)) (rowsOf (↑(List.length a0) : Int) [D.int IntKind.i64 (0 : Int), D.list 1 []])) (none)) (none) := by kernel_rfl
theorem F56.run (k : Nat) (a0 : Ovi.Rows) : C (k + 1) 56 [AV.d (D.list 2 a0)] = ite' ((↑(List.length a0) : Int) == (↑(List.length a0) : Int)) (ite' (inM (↑(List.length a0) : Int)) (F56.L3 k (C k)  (k) (a0) ((0 : Int)) (rowsOf (↑(List.length a0) : Int) [D.int IntKind.i64 (0 : Int), D.list 1 []])) (none)) (none) := (show C (k + 1) 56 [AV.d (D.list 2 a0)] = evFnK P hs (C k) 56 k Try.f56 [AV.d (D.list 2 a0)] by kernel_rfl).trans (F56.eq k (C k) a0)
noncomputable def F60.L4 (k : Nat) (call : CallF)  (n : Nat) (v0 : Ovi.Rows) (v1 : Ovi.Rows) (v2 : Int) : Option Res := loopFn P hs call 60 k Try.f60 [1, 1, 0, 1, 0] [] n [(0, AV.d (D.list 2 v0)), (1, AV.d (D.list 2 v1)), (5, AV.d (D.int IntKind.i64 v2))] []
theorem F60.L4.zero (k : Nat) (call : CallF)  (v0 : Ovi.Rows) (v1 : Ovi.Rows) (v2 : Int) : F60.L4 k call  0 v0 v1 v2 = none := by kernel_rfl
theorem F60.L4.succ (k : Nat) (call : CallF)  (n : Nat) (v0 : Ovi.Rows) (v1 : Ovi.Rows) (v2 : Int) : F60.L4 k call  (n + 1) v0 v1 v2 = ite' (decide (v2 < (↑(List.length v0) : Int))) (ite' (inR v2 (List.length v0)) (bindI (cellI IntKind.i64 v0 v2.toNat 0) fun n8 => bindL (cellL 1 v0 v2.toNat 1) fun l9 => ite' (inR v2 (List.length v1)) (bindI (cellI IntKind.i64 v1 v2.toNat 0) fun n10 => bindL (cellL 1 v1 v2.toNat 1) fun l11 => bindR (call 108 [AV.agg [AV.d (D.int IntKind.i64 n8), AV.d (D.list 1 l9)], AV.agg [AV.d (D.int IntKind.i64 n10), AV.d (D.list 1 l11)]]) fun r12 => bindB (resB 1 false 1 r12 0 0) fun b13 => ite' (!b13) (some ([(false, [RL.d (D.bool false)])])) (F60.L4 k call  (n) (v0) (v1) (IntKind.i64.wrap (v2 + (1 : Int))))) (none)) (none)) (some ([(false, [RL.d (D.bool true)])])) := by kernel_rfl
theorem F60.eq (k : Nat) (call : CallF) (a0 : Ovi.Rows) (a1 : Ovi.Rows) : evFnK P hs call (60 : FuncId) k Try.f60 [AV.d (D.list 2 a0), AV.d (D.list 2 a1)] = ite' ((↑(List.length a0) : Int) != (↑(List.length a1) : Int)) (some ([(false, [RL.d (D.bool false)])])) (F60.L4 k call  (k) (a0) (a1) ((0 : Int))) := by kernel_rfl
theorem F60.run (k : Nat) (a0 : Ovi.Rows) (a1 : Ovi.Rows) : C (k + 1) 60 [AV.d (D.list 2 a0), AV.d (D.list 2 a1)] = ite' ((↑(List.length a0) : Int) != (↑(List.length a1) : Int)) (some ([(false, [RL.d (D.bool false)])])) (F60.L4 k (C k)  (k) (a0) (a1) ((0 : Int))) := (show C (k + 1) 60 [AV.d (D.list 2 a0), AV.d (D.list 2 a1)] = evFnK P hs (C k) 60 k Try.f60 [AV.d (D.list 2 a0), AV.d (D.list 2 a1)] by kernel_rfl).trans (F60.eq k (C k) a0 a1)
theorem F61.eq (k : Nat) (call : CallF) (a0_0 : List UInt8) (a0_1 : Int) (a0_2 : Bool) (a1 : Int) : evFnK P hs call (61 : FuncId) k Try.f61 [AV.agg [AV.d (D.str a0_0), AV.d (D.int IntKind.i64 a0_1), AV.d (D.bool a0_2)], AV.d (D.int IntKind.i64 a1)] = ite' (decide (IntKind.i64.wrap (a1 - (↑a0_0.length : Int)) < (0 : Int))) (some ([(false, [RL.d (D.int IntKind.i64 (-1 : Int))])])) (some ([(false, [RL.d (D.int IntKind.i64 (IntKind.i64.wrap (a1 - (↑a0_0.length : Int))))])])) := by kernel_rfl
theorem F61.run (k : Nat) (a0_0 : List UInt8) (a0_1 : Int) (a0_2 : Bool) (a1 : Int) : C (k + 1) 61 [AV.agg [AV.d (D.str a0_0), AV.d (D.int IntKind.i64 a0_1), AV.d (D.bool a0_2)], AV.d (D.int IntKind.i64 a1)] = ite' (decide (IntKind.i64.wrap (a1 - (↑a0_0.length : Int)) < (0 : Int))) (some ([(false, [RL.d (D.int IntKind.i64 (-1 : Int))])])) (some ([(false, [RL.d (D.int IntKind.i64 (IntKind.i64.wrap (a1 - (↑a0_0.length : Int))))])])) := (show C (k + 1) 61 [AV.agg [AV.d (D.str a0_0), AV.d (D.int IntKind.i64 a0_1), AV.d (D.bool a0_2)], AV.d (D.int IntKind.i64 a1)] = evFnK P hs (C k) 61 k Try.f61 [AV.agg [AV.d (D.str a0_0), AV.d (D.int IntKind.i64 a0_1), AV.d (D.bool a0_2)], AV.d (D.int IntKind.i64 a1)] by kernel_rfl).trans (F61.eq k (C k) a0_0 a0_1 a0_2 a1)
noncomputable def F62.L3 (k : Nat) (call : CallF)  (n : Nat) (v0 : Ovi.Rows) (v1 : List (List D)) (v2 : Int) : Option Res := loopFn P hs call 62 k Try.f62 [1, 1, 0, 1, 0] [] n [(0, AV.d (D.list 2 v0)), (3, AV.d (D.list 1 v1)), (4, AV.d (D.int IntKind.i64 v2))] []
noncomputable def F62.L6 (k : Nat) (call : CallF) (k3 : Nat) (n : Nat) (v0 : Ovi.Rows) (v1 : List (List D)) (v2 : Int) (v3 : Int) : Option Res := loopFn P hs call 62 k Try.f62 [1, 1, 0, 1, 0, 0, 1, 0, 0, 1, 0] [k3] n [(0, AV.d (D.list 2 v0)), (3, AV.d (D.list 1 v1)), (4, AV.d (D.int IntKind.i64 v2)), (5, AV.d (D.int IntKind.i64 v3))] []
theorem F62.L3.zero (k : Nat) (call : CallF)  (v0 : Ovi.Rows) (v1 : List (List D)) (v2 : Int) : F62.L3 k call  0 v0 v1 v2 = none := by kernel_rfl
theorem F62.L3.succ (k : Nat) (call : CallF)  (n : Nat) (v0 : Ovi.Rows) (v1 : List (List D)) (v2 : Int) : F62.L3 k call  (n + 1) v0 v1 v2 = ite' (decide (v2 < (↑(List.length v0) : Int))) (F62.L6 k call n (k) (v0) (v1) (v2) ((0 : Int))) (some ([(false, [RL.d (D.list 1 v1)])])) := by kernel_rfl
theorem F62.L6.zero (k : Nat) (call : CallF) (k3 : Nat) (v0 : Ovi.Rows) (v1 : List (List D)) (v2 : Int) (v3 : Int) : F62.L6 k call k3 0 v0 v1 v2 v3 = none := by kernel_rfl
theorem F62.L6.succ (k : Nat) (call : CallF) (k3 : Nat) (n : Nat) (v0 : Ovi.Rows) (v1 : List (List D)) (v2 : Int) (v3 : Int) : F62.L6 k call k3 (n + 1) v0 v1 v2 v3 = ite' (inR v2 (List.length v0)) (bindL (cellL 1 v0 v2.toNat 1) fun l9 => ite' (decide (v3 < (↑(List.length l9) : Int))) (ite' (inR v2 (List.length v0)) (bindL (cellL 1 v0 v2.toNat 1) fun l10 => ite' (inR v3 (List.length l10)) (bindI (cellI IntKind.i64 l10 v3.toNat 0) fun n11 => ite' (decide (n11 ≥ (0 : Int))) (ite' (inR v2 (List.length v0)) (bindL (cellL 1 v0 v2.toNat 1) fun l12 => ite' (inR v3 (List.length l12)) (bindI (cellI IntKind.i64 l12 v3.toNat 0) fun n13 => bindR (call 109 [AV.d (D.list 1 v1), AV.d (D.int IntKind.i64 n13)]) fun r14 => bindL (resL 1 1 false 1 r14 0 0) fun l15 => F62.L6 k call k3 (n) (v0) (l15) (v2) (IntKind.i64.wrap (v3 + (1 : Int)))) (none)) (none)) (F62.L6 k call k3 (n) (v0) (v1) (v2) (IntKind.i64.wrap (v3 + (1 : Int))))) (none)) (none)) (F62.L3 k call  (k3) (v0) (v1) (IntKind.i64.wrap (v2 + (1 : Int))))) (none) := by kernel_rfl
theorem F62.eq (k : Nat) (call : CallF) (a0 : Ovi.Rows) : evFnK P hs call (62 : FuncId) k Try.f62 [AV.d (D.list 2 a0)] = F62.L3 k call  (k) (a0) ([]) ((0 : Int)) := by kernel_rfl
theorem F62.run (k : Nat) (a0 : Ovi.Rows) : C (k + 1) 62 [AV.d (D.list 2 a0)] = F62.L3 k (C k)  (k) (a0) ([]) ((0 : Int)) := (show C (k + 1) 62 [AV.d (D.list 2 a0)] = evFnK P hs (C k) 62 k Try.f62 [AV.d (D.list 2 a0)] by kernel_rfl).trans (F62.eq k (C k) a0)
noncomputable def F63.L4 (k : Nat) (call : CallF)  (n : Nat) (v0 : Int) (v1 : Int) (v2 : Ovi.Rows) : Option Res := loopFn P hs call 63 k Try.f63 [1, 1, 0, 1, 0] [] n [(3, AV.var 192 0), (5, AV.d (D.int IntKind.i64 v0))] [(192, Blk.var [AV.d (D.int IntKind.i64 v1), AV.d (D.list 1 v2)])]
theorem F63.L4.zero (k : Nat) (call : CallF)  (v0 : Int) (v1 : Int) (v2 : Ovi.Rows) : F63.L4 k call  0 v0 v1 v2 = none := by kernel_rfl
theorem F63.L4.succ (k : Nat) (call : CallF)  (n : Nat) (v0 : Int) (v1 : Int) (v2 : Ovi.Rows) : F63.L4 k call  (n + 1) v0 v1 v2 = ite' (decide (v0 < (↑(List.length v2) : Int))) (ite' (inR v0 (List.length v2)) (bindI (cellI IntKind.i64 v2 v0.toNat 0) fun n9 => bindR (call 65 [AV.d (D.int IntKind.i64 n9), AV.d (D.int IntKind.i64 (-10 : Int)), AV.d (D.int IntKind.i64 (4 : Int))]) fun r10 => bindB (resB 1 false 1 r10 0 0) fun b11 => ite' (!b11) (some ([(false, [RL.d (D.bool false)])])) (F63.L4 k call  (n) (IntKind.i64.wrap (v0 + (1 : Int))) (v1) (v2))) (none)) (some ([(false, [RL.d (D.bool true)])])) := by kernel_rfl
theorem F63.eq (k : Nat) (call : CallF) (a0 : Ovi.Rows) (a1_0 : Int) (a1_1 : Ovi.Rows) : evFnK P hs call (63 : FuncId) k Try.f63 [AV.d (D.list 3 a0), AV.agg [AV.d (D.int IntKind.i64 a1_0), AV.d (D.list 1 a1_1)]] = bindR (call 110 [AV.d (D.list 3 a0)]) fun r5 => bindB (resB 1 false 1 r5 0 0) fun b6 => ite' (!b6) (some ([(false, [RL.d (D.bool false)])])) (bindR (call 65 [AV.d (D.int IntKind.i64 a1_0), AV.d (D.int IntKind.i64 (0 : Int)), AV.d (D.int IntKind.i64 (IntKind.i64.wrap ((↑(List.length a0) : Int) - (1 : Int))))]) fun r7 => bindB (resB 1 false 1 r7 0 0) fun b8 => ite' (!b8) (some ([(false, [RL.d (D.bool false)])])) (ite' (inR a1_0 (List.length a0)) (bindI (cellI IntKind.i64 a0 a1_0.toNat 1) fun n9 => ite' ((↑(List.length a1_1) : Int) != n9) (some ([(false, [RL.d (D.bool false)])])) (F63.L4 k call  (k) ((0 : Int)) (a1_0) (a1_1))) (none))) := by kernel_rfl
theorem F63.run (k : Nat) (a0 : Ovi.Rows) (a1_0 : Int) (a1_1 : Ovi.Rows) : C (k + 1) 63 [AV.d (D.list 3 a0), AV.agg [AV.d (D.int IntKind.i64 a1_0), AV.d (D.list 1 a1_1)]] = bindR ((C k) 110 [AV.d (D.list 3 a0)]) fun r5 => bindB (resB 1 false 1 r5 0 0) fun b6 => ite' (!b6) (some ([(false, [RL.d (D.bool false)])])) (bindR ((C k) 65 [AV.d (D.int IntKind.i64 a1_0), AV.d (D.int IntKind.i64 (0 : Int)), AV.d (D.int IntKind.i64 (IntKind.i64.wrap ((↑(List.length a0) : Int) - (1 : Int))))]) fun r7 => bindB (resB 1 false 1 r7 0 0) fun b8 => ite' (!b8) (some ([(false, [RL.d (D.bool false)])])) (ite' (inR a1_0 (List.length a0)) (bindI (cellI IntKind.i64 a0 a1_0.toNat 1) fun n9 => ite' ((↑(List.length a1_1) : Int) != n9) (some ([(false, [RL.d (D.bool false)])])) (F63.L4 k (C k)  (k) ((0 : Int)) (a1_0) (a1_1))) (none))) := (show C (k + 1) 63 [AV.d (D.list 3 a0), AV.agg [AV.d (D.int IntKind.i64 a1_0), AV.d (D.list 1 a1_1)]] = evFnK P hs (C k) 63 k Try.f63 [AV.d (D.list 3 a0), AV.agg [AV.d (D.int IntKind.i64 a1_0), AV.d (D.list 1 a1_1)]] by kernel_rfl).trans (F63.eq k (C k) a0 a1_0 a1_1)
noncomputable def F64.L2 (k : Nat) (call : CallF)  (n : Nat) (v0 : Ovi.Rows) (v1 : Int) (v2 : Int) : Option Res := loopFn P hs call 64 k Try.f64 [1, 0, 1, 0] [] n [(0, AV.d (D.list 1 v0)), (1, AV.d (D.int IntKind.i64 v1)), (5, AV.d (D.int IntKind.i64 v2))] []
theorem F64.L2.zero (k : Nat) (call : CallF)  (v0 : Ovi.Rows) (v1 : Int) (v2 : Int) : F64.L2 k call  0 v0 v1 v2 = none := by kernel_rfl
theorem F64.L2.succ (k : Nat) (call : CallF)  (n : Nat) (v0 : Ovi.Rows) (v1 : Int) (v2 : Int) : F64.L2 k call  (n + 1) v0 v1 v2 = ite' (decide (v2 < (↑(List.length v0) : Int))) (ite' (inR v2 (List.length v0)) (bindI (cellI IntKind.i64 v0 v2.toNat 0) fun n8 => ite' (n8 == v1) (some ([(false, [RL.d (D.bool true)])])) (F64.L2 k call  (n) (v0) (v1) (IntKind.i64.wrap (v2 + (1 : Int))))) (none)) (some ([(false, [RL.d (D.bool false)])])) := by kernel_rfl
theorem F64.eq (k : Nat) (call : CallF) (a0 : Ovi.Rows) (a1 : Int) : evFnK P hs call (64 : FuncId) k Try.f64 [AV.d (D.list 1 a0), AV.d (D.int IntKind.i64 a1)] = F64.L2 k call  (k) (a0) (a1) ((0 : Int)) := by kernel_rfl
theorem F64.run (k : Nat) (a0 : Ovi.Rows) (a1 : Int) : C (k + 1) 64 [AV.d (D.list 1 a0), AV.d (D.int IntKind.i64 a1)] = F64.L2 k (C k)  (k) (a0) (a1) ((0 : Int)) := (show C (k + 1) 64 [AV.d (D.list 1 a0), AV.d (D.int IntKind.i64 a1)] = evFnK P hs (C k) 64 k Try.f64 [AV.d (D.list 1 a0), AV.d (D.int IntKind.i64 a1)] by kernel_rfl).trans (F64.eq k (C k) a0 a1)
theorem F65.eq (k : Nat) (call : CallF) (a0 : Int) (a1 : Int) (a2 : Int) : evFnK P hs call (65 : FuncId) k Try.f65 [AV.d (D.int IntKind.i64 a0), AV.d (D.int IntKind.i64 a1), AV.d (D.int IntKind.i64 a2)] = ite' (decide (a0 ≥ a1)) (some ([(false, [RL.d (D.bool (decide (a0 ≤ a2)))])])) (some ([(false, [RL.d (D.bool false)])])) := by kernel_rfl
theorem F65.run (k : Nat) (a0 : Int) (a1 : Int) (a2 : Int) : C (k + 1) 65 [AV.d (D.int IntKind.i64 a0), AV.d (D.int IntKind.i64 a1), AV.d (D.int IntKind.i64 a2)] = ite' (decide (a0 ≥ a1)) (some ([(false, [RL.d (D.bool (decide (a0 ≤ a2)))])])) (some ([(false, [RL.d (D.bool false)])])) := (show C (k + 1) 65 [AV.d (D.int IntKind.i64 a0), AV.d (D.int IntKind.i64 a1), AV.d (D.int IntKind.i64 a2)] = evFnK P hs (C k) 65 k Try.f65 [AV.d (D.int IntKind.i64 a0), AV.d (D.int IntKind.i64 a1), AV.d (D.int IntKind.i64 a2)] by kernel_rfl).trans (F65.eq k (C k) a0 a1 a2)
theorem F66.eq (k : Nat) (call : CallF) (a0_0 : List UInt8) (a0_1 : Int) (a0_2 : Bool) : evFnK P hs call (66 : FuncId) k Try.f66 [AV.agg [AV.d (D.str a0_0), AV.d (D.int IntKind.i64 a0_1), AV.d (D.bool a0_2)]] = some ([(true, [RL.d (D.str a0_0), RL.d (D.int IntKind.i64 a0_1), RL.d (D.bool a0_2)])]) := by kernel_rfl
theorem F66.run (k : Nat) (a0_0 : List UInt8) (a0_1 : Int) (a0_2 : Bool) : C (k + 1) 66 [AV.agg [AV.d (D.str a0_0), AV.d (D.int IntKind.i64 a0_1), AV.d (D.bool a0_2)]] = some ([(true, [RL.d (D.str a0_0), RL.d (D.int IntKind.i64 a0_1), RL.d (D.bool a0_2)])]) := (show C (k + 1) 66 [AV.agg [AV.d (D.str a0_0), AV.d (D.int IntKind.i64 a0_1), AV.d (D.bool a0_2)]] = evFnK P hs (C k) 66 k Try.f66 [AV.agg [AV.d (D.str a0_0), AV.d (D.int IntKind.i64 a0_1), AV.d (D.bool a0_2)]] by kernel_rfl).trans (F66.eq k (C k) a0_0 a0_1 a0_2)
noncomputable def F67.L3 (k : Nat) (call : CallF)  (n : Nat) (v0 : Ovi.Rows) (v1 : Int) (v2 : Int) (v3 : List (List D)) : Option Res := loopFn P hs call 67 k Try.f67 [1, 1, 0, 1, 0] [] n [(3, AV.own 100003 0), (9, AV.d (D.list 2 v0)), (10, AV.d (D.int IntKind.i64 v1)), (11, AV.d (D.int IntKind.i64 v2))] [(100003, Blk.arr 3 1 0 v3)]
noncomputable def F67.L6 (k : Nat) (call : CallF) (k3 : Nat) (n : Nat) (v0 : Ovi.Rows) (v1 : Int) (v2 : Int) (v3 : Ovi.Rows) (v4 : Int) (v5 : Int) (v6 : List (List D)) : Option Res := loopFn P hs call 67 k Try.f67 [1, 1, 0, 1, 0, 0, 1, 1, 0, 0, 1, 1, 0] [k3] n [(3, AV.own 100003 0), (9, AV.d (D.list 2 v0)), (10, AV.d (D.int IntKind.i64 v1)), (11, AV.d (D.int IntKind.i64 v2)), (16, AV.d (D.list 1 v3)), (17, AV.d (D.int IntKind.i64 v4)), (18, AV.d (D.int IntKind.i64 v5))] [(100003, Blk.arr 3 1 0 v6)]
theorem F67.L3.zero (k : Nat) (call : CallF)  (v0 : Ovi.Rows) (v1 : Int) (v2 : Int) (v3 : List (List D)) : F67.L3 k call  0 v0 v1 v2 v3 = none := by kernel_rfl
theorem F67.L3.succ (k : Nat) (call : CallF)  (n : Nat) (v0 : Ovi.Rows) (v1 : Int) (v2 : Int) (v3 : List (List D)) : F67.L3 k call  (n + 1) v0 v1 v2 v3 = ite' (decide (v2 < v1)) (ite' (inR v2 (List.length v0)) (bindI (cellI IntKind.i64 v0 v2.toNat 0) fun n8 => bindL (cellL 1 v0 v2.toNat 1) fun l9 => F67.L6 k call n (k) (v0) (v1) (v2) (l9) ((↑(List.length l9) : Int)) ((0 : Int)) (v3)) (none)) (bindR (call 111 [AV.var 0 0, AV.d (D.int IntKind.i64 (↑3 : Int)), AV.d (D.list 1 v3)]) fun r8 => bindL (resO 3 1 1 false 1 r8 0 0) fun l9 => bindR (call 112 [AV.var 0 0, AV.d (D.int IntKind.i64 (↑3 : Int)), AV.d (D.list 1 l9)]) fun r10 => bindL (resO 3 1 2 false 1 r10 0 0) fun l11 => some ([(false, [RL.row 3 1 l11])])) := by kernel_rfl
theorem F67.L6.zero (k : Nat) (call : CallF) (k3 : Nat) (v0 : Ovi.Rows) (v1 : Int) (v2 : Int) (v3 : Ovi.Rows) (v4 : Int) (v5 : Int) (v6 : List (List D)) : F67.L6 k call k3 0 v0 v1 v2 v3 v4 v5 v6 = none := by kernel_rfl
theorem F67.L6.succ (k : Nat) (call : CallF) (k3 : Nat) (n : Nat) (v0 : Ovi.Rows) (v1 : Int) (v2 : Int) (v3 : Ovi.Rows) (v4 : Int) (v5 : Int) (v6 : List (List D)) : F67.L6 k call k3 (n + 1) v0 v1 v2 v3 v4 v5 v6 = ite' (decide (v5 < v4)) (ite' (inR v5 (List.length v3)) (bindI (cellI IntKind.i64 v3 v5.toNat 0) fun n12 => ite' (decide (n12 ≥ (0 : Int))) (ite' (fits (v6.length + [[D.int IntKind.i64 n12]].length)) (F67.L6 k call k3 (n) (v0) (v1) (v2) (v3) (v4) (IntKind.i64.wrap (v5 + (1 : Int))) (v6 ++ [[D.int IntKind.i64 n12]])) (none)) (F67.L6 k call k3 (n) (v0) (v1) (v2) (v3) (v4) (IntKind.i64.wrap (v5 + (1 : Int))) (v6))) (none)) (F67.L3 k call  (k3) (v0) (v1) (IntKind.i64.wrap (v2 + (1 : Int))) (v6)) := by kernel_rfl
theorem F67.eq (k : Nat) (call : CallF) (a0 : Ovi.Rows) : evFnK P hs call (67 : FuncId) k Try.f67 [AV.d (D.list 2 a0)] = F67.L3 k call  (k) (a0) ((↑(List.length a0) : Int)) ((0 : Int)) ([]) := by kernel_rfl
theorem F67.run (k : Nat) (a0 : Ovi.Rows) : C (k + 1) 67 [AV.d (D.list 2 a0)] = F67.L3 k (C k)  (k) (a0) ((↑(List.length a0) : Int)) ((0 : Int)) ([]) := (show C (k + 1) 67 [AV.d (D.list 2 a0)] = evFnK P hs (C k) 67 k Try.f67 [AV.d (D.list 2 a0)] by kernel_rfl).trans (F67.eq k (C k) a0)
theorem F68.eq (k : Nat) (call : CallF) (a0 : Ovi.Rows) (a1 : Ovi.Rows) (a2 : Int) : evFnK P hs call (68 : FuncId) k Try.f68 [AV.d (D.list 3 a0), AV.d (D.list 2 a1), AV.d (D.int IntKind.i64 a2)] = bindR (call 113 [AV.d (D.int IntKind.i64 (↑(List.length a1) : Int)), AV.d (D.int IntKind.i64 (1 : Int)), AV.d (D.int IntKind.i64 a2)]) fun r5 => bindB (resB 1 false 1 r5 0 0) fun b6 => ite' (b6) (bindR (call 114 [AV.d (D.list 2 a1), AV.d (D.fn 115 [[D.list 3 a0]])]) fun r7 => bindB (resB 1 false 1 r7 0 0) fun b8 => some ([(false, [RL.d (D.bool !b8)])])) (some ([(false, [RL.d (D.bool false)])])) := by kernel_rfl
theorem F68.run (k : Nat) (a0 : Ovi.Rows) (a1 : Ovi.Rows) (a2 : Int) : C (k + 1) 68 [AV.d (D.list 3 a0), AV.d (D.list 2 a1), AV.d (D.int IntKind.i64 a2)] = bindR ((C k) 113 [AV.d (D.int IntKind.i64 (↑(List.length a1) : Int)), AV.d (D.int IntKind.i64 (1 : Int)), AV.d (D.int IntKind.i64 a2)]) fun r5 => bindB (resB 1 false 1 r5 0 0) fun b6 => ite' (b6) (bindR ((C k) 114 [AV.d (D.list 2 a1), AV.d (D.fn 115 [[D.list 3 a0]])]) fun r7 => bindB (resB 1 false 1 r7 0 0) fun b8 => some ([(false, [RL.d (D.bool !b8)])])) (some ([(false, [RL.d (D.bool false)])])) := (show C (k + 1) 68 [AV.d (D.list 3 a0), AV.d (D.list 2 a1), AV.d (D.int IntKind.i64 a2)] = evFnK P hs (C k) 68 k Try.f68 [AV.d (D.list 3 a0), AV.d (D.list 2 a1), AV.d (D.int IntKind.i64 a2)] by kernel_rfl).trans (F68.eq k (C k) a0 a1 a2)
theorem F69.eq (k : Nat) (call : CallF) (a0 : Ovi.Rows) (a1 : FuncId) (a1c : Ovi.Rows) : evFnK P hs call (69 : FuncId) k Try.f69 [AV.d (D.list 1 a0), AV.d (D.fn a1 a1c)] = bindR (call 117 [AV.d (D.list 1 a0), AV.d (D.fn a1 a1c)]) fun r5 => bindI (resI IntKind.i64 1 false 1 r5 0 0) fun n6 => some ([(false, [RL.d (D.bool (decide (n6 ≥ (0 : Int))))])]) := by kernel_rfl
theorem F69.run (k : Nat) (a0 : Ovi.Rows) (a1 : FuncId) (a1c : Ovi.Rows) : C (k + 1) 69 [AV.d (D.list 1 a0), AV.d (D.fn a1 a1c)] = bindR ((C k) 117 [AV.d (D.list 1 a0), AV.d (D.fn a1 a1c)]) fun r5 => bindI (resI IntKind.i64 1 false 1 r5 0 0) fun n6 => some ([(false, [RL.d (D.bool (decide (n6 ≥ (0 : Int))))])]) := (show C (k + 1) 69 [AV.d (D.list 1 a0), AV.d (D.fn a1 a1c)] = evFnK P hs (C k) 69 k Try.f69 [AV.d (D.list 1 a0), AV.d (D.fn a1 a1c)] by kernel_rfl).trans (F69.eq k (C k) a0 a1 a1c)
theorem F70.eq (k : Nat) (call : CallF) (a0 : Int) (c0_0 : Ovi.Rows) : evFnK P hs call (70 : FuncId) k Try.f70 [AV.d (D.int IntKind.i64 a0), AV.cap [D.list 1 c0_0] 0] = bindR (call 71 [AV.d (D.list 1 c0_0), AV.d (D.int IntKind.i64 a0)]) fun r4 => bindB (resB 1 false 1 r4 0 0) fun b5 => some ([(false, [RL.d (D.bool !b5)])]) := by kernel_rfl
theorem F70.run (k : Nat) (a0 : Int) (c0_0 : Ovi.Rows) : C (k + 1) 70 [AV.d (D.int IntKind.i64 a0), AV.cap [D.list 1 c0_0] 0] = bindR ((C k) 71 [AV.d (D.list 1 c0_0), AV.d (D.int IntKind.i64 a0)]) fun r4 => bindB (resB 1 false 1 r4 0 0) fun b5 => some ([(false, [RL.d (D.bool !b5)])]) := (show C (k + 1) 70 [AV.d (D.int IntKind.i64 a0), AV.cap [D.list 1 c0_0] 0] = evFnK P hs (C k) 70 k Try.f70 [AV.d (D.int IntKind.i64 a0), AV.cap [D.list 1 c0_0] 0] by kernel_rfl).trans (F70.eq k (C k) a0 c0_0)
theorem F71.eq (k : Nat) (call : CallF) (a0 : Ovi.Rows) (a1 : Int) : evFnK P hs call (71 : FuncId) k Try.f71 [AV.d (D.list 1 a0), AV.d (D.int IntKind.i64 a1)] = bindR (call 118 [AV.d (D.list 1 a0), AV.d (D.int IntKind.i64 a1)]) fun r4 => bindI (resI IntKind.i64 1 false 1 r4 0 0) fun n5 => some ([(false, [RL.d (D.bool (decide (n5 ≥ (0 : Int))))])]) := by kernel_rfl
theorem F71.run (k : Nat) (a0 : Ovi.Rows) (a1 : Int) : C (k + 1) 71 [AV.d (D.list 1 a0), AV.d (D.int IntKind.i64 a1)] = bindR ((C k) 118 [AV.d (D.list 1 a0), AV.d (D.int IntKind.i64 a1)]) fun r4 => bindI (resI IntKind.i64 1 false 1 r4 0 0) fun n5 => some ([(false, [RL.d (D.bool (decide (n5 ≥ (0 : Int))))])]) := (show C (k + 1) 71 [AV.d (D.list 1 a0), AV.d (D.int IntKind.i64 a1)] = evFnK P hs (C k) 71 k Try.f71 [AV.d (D.list 1 a0), AV.d (D.int IntKind.i64 a1)] by kernel_rfl).trans (F71.eq k (C k) a0 a1)
theorem F72.eq (k : Nat) (call : CallF) (a0_0 : List UInt8) (a0_1 : Int) (a0_2 : Bool) (a1_0 : List UInt8) (a1_1 : Int) (a1_2 : Bool) : evFnK P hs call (72 : FuncId) k Try.f72 [AV.agg [AV.d (D.str a0_0), AV.d (D.int IntKind.i64 a0_1), AV.d (D.bool a0_2)], AV.agg [AV.d (D.str a1_0), AV.d (D.int IntKind.i64 a1_1), AV.d (D.bool a1_2)]] = ite' (!a0_0 == a1_0) (some ([(false, [RL.d (D.bool false)])])) (ite' (a0_1 != a1_1) (some ([(false, [RL.d (D.bool false)])])) (ite' (!a0_2 == a1_2) (some ([(false, [RL.d (D.bool false)])])) (some ([(false, [RL.d (D.bool true)])])))) := by kernel_rfl
theorem F72.run (k : Nat) (a0_0 : List UInt8) (a0_1 : Int) (a0_2 : Bool) (a1_0 : List UInt8) (a1_1 : Int) (a1_2 : Bool) : C (k + 1) 72 [AV.agg [AV.d (D.str a0_0), AV.d (D.int IntKind.i64 a0_1), AV.d (D.bool a0_2)], AV.agg [AV.d (D.str a1_0), AV.d (D.int IntKind.i64 a1_1), AV.d (D.bool a1_2)]] = ite' (!a0_0 == a1_0) (some ([(false, [RL.d (D.bool false)])])) (ite' (a0_1 != a1_1) (some ([(false, [RL.d (D.bool false)])])) (ite' (!a0_2 == a1_2) (some ([(false, [RL.d (D.bool false)])])) (some ([(false, [RL.d (D.bool true)])])))) := (show C (k + 1) 72 [AV.agg [AV.d (D.str a0_0), AV.d (D.int IntKind.i64 a0_1), AV.d (D.bool a0_2)], AV.agg [AV.d (D.str a1_0), AV.d (D.int IntKind.i64 a1_1), AV.d (D.bool a1_2)]] = evFnK P hs (C k) 72 k Try.f72 [AV.agg [AV.d (D.str a0_0), AV.d (D.int IntKind.i64 a0_1), AV.d (D.bool a0_2)], AV.agg [AV.d (D.str a1_0), AV.d (D.int IntKind.i64 a1_1), AV.d (D.bool a1_2)]] by kernel_rfl).trans (F72.eq k (C k) a0_0 a0_1 a0_2 a1_0 a1_1 a1_2)
theorem F106.eq (k : Nat) (call : CallF) (a0_0 : Int) (a0_1 : Ovi.Rows) (a1 : Int) : evFnK P hs call (106 : FuncId) k Try.f106 [AV.agg [AV.d (D.int IntKind.i64 a0_0), AV.d (D.list 1 a0_1)], AV.d (D.int IntKind.i64 a1)] = bindR (call 52 [AV.d (D.list 1 a0_1), AV.d (D.int IntKind.i64 a1)]) fun r5 => bindI (resI IntKind.i64 1 false 1 r5 0 0) fun n6 => ite' (decide (n6 < (0 : Int))) (some ([(false, [RL.d (D.int IntKind.i64 (-1 : Int))])])) (some ([(false, [RL.d (D.int IntKind.i64 n6)])])) := by kernel_rfl
theorem F106.run (k : Nat) (a0_0 : Int) (a0_1 : Ovi.Rows) (a1 : Int) : C (k + 1) 106 [AV.agg [AV.d (D.int IntKind.i64 a0_0), AV.d (D.list 1 a0_1)], AV.d (D.int IntKind.i64 a1)] = bindR ((C k) 52 [AV.d (D.list 1 a0_1), AV.d (D.int IntKind.i64 a1)]) fun r5 => bindI (resI IntKind.i64 1 false 1 r5 0 0) fun n6 => ite' (decide (n6 < (0 : Int))) (some ([(false, [RL.d (D.int IntKind.i64 (-1 : Int))])])) (some ([(false, [RL.d (D.int IntKind.i64 n6)])])) := (show C (k + 1) 106 [AV.agg [AV.d (D.int IntKind.i64 a0_0), AV.d (D.list 1 a0_1)], AV.d (D.int IntKind.i64 a1)] = evFnK P hs (C k) 106 k Try.f106 [AV.agg [AV.d (D.int IntKind.i64 a0_0), AV.d (D.list 1 a0_1)], AV.d (D.int IntKind.i64 a1)] by kernel_rfl).trans (F106.eq k (C k) a0_0 a0_1 a1)
theorem F107.eq (k : Nat) (call : CallF) (a0_0 : Int) (a0_1 : Ovi.Rows) : evFnK P hs call (107 : FuncId) k Try.f107 [AV.agg [AV.d (D.int IntKind.i64 a0_0), AV.d (D.list 1 a0_1)]] = bindR (call 29 [AV.d (D.list 1 a0_1)]) fun r4 => bindL (resO 3 1 1 false 1 r4 0 0) fun l5 => some ([(true, [RL.d (D.int IntKind.i64 a0_0), RL.row 3 1 l5])]) := by kernel_rfl
theorem F107.run (k : Nat) (a0_0 : Int) (a0_1 : Ovi.Rows) : C (k + 1) 107 [AV.agg [AV.d (D.int IntKind.i64 a0_0), AV.d (D.list 1 a0_1)]] = bindR ((C k) 29 [AV.d (D.list 1 a0_1)]) fun r4 => bindL (resO 3 1 1 false 1 r4 0 0) fun l5 => some ([(true, [RL.d (D.int IntKind.i64 a0_0), RL.row 3 1 l5])]) := (show C (k + 1) 107 [AV.agg [AV.d (D.int IntKind.i64 a0_0), AV.d (D.list 1 a0_1)]] = evFnK P hs (C k) 107 k Try.f107 [AV.agg [AV.d (D.int IntKind.i64 a0_0), AV.d (D.list 1 a0_1)]] by kernel_rfl).trans (F107.eq k (C k) a0_0 a0_1)
theorem F108.eq (k : Nat) (call : CallF) (a0_0 : Int) (a0_1 : Ovi.Rows) (a1_0 : Int) (a1_1 : Ovi.Rows) : evFnK P hs call (108 : FuncId) k Try.f108 [AV.agg [AV.d (D.int IntKind.i64 a0_0), AV.d (D.list 1 a0_1)], AV.agg [AV.d (D.int IntKind.i64 a1_0), AV.d (D.list 1 a1_1)]] = ite' (a0_0 != a1_0) (some ([(false, [RL.d (D.bool false)])])) (bindR (call 32 [AV.d (D.list 1 a0_1), AV.d (D.list 1 a1_1)]) fun r6 => bindB (resB 1 false 1 r6 0 0) fun b7 => ite' (!b7) (some ([(false, [RL.d (D.bool false)])])) (some ([(false, [RL.d (D.bool true)])]))) := by kernel_rfl
theorem F108.run (k : Nat) (a0_0 : Int) (a0_1 : Ovi.Rows) (a1_0 : Int) (a1_1 : Ovi.Rows) : C (k + 1) 108 [AV.agg [AV.d (D.int IntKind.i64 a0_0), AV.d (D.list 1 a0_1)], AV.agg [AV.d (D.int IntKind.i64 a1_0), AV.d (D.list 1 a1_1)]] = ite' (a0_0 != a1_0) (some ([(false, [RL.d (D.bool false)])])) (bindR ((C k) 32 [AV.d (D.list 1 a0_1), AV.d (D.list 1 a1_1)]) fun r6 => bindB (resB 1 false 1 r6 0 0) fun b7 => ite' (!b7) (some ([(false, [RL.d (D.bool false)])])) (some ([(false, [RL.d (D.bool true)])]))) := (show C (k + 1) 108 [AV.agg [AV.d (D.int IntKind.i64 a0_0), AV.d (D.list 1 a0_1)], AV.agg [AV.d (D.int IntKind.i64 a1_0), AV.d (D.list 1 a1_1)]] = evFnK P hs (C k) 108 k Try.f108 [AV.agg [AV.d (D.int IntKind.i64 a0_0), AV.d (D.list 1 a0_1)], AV.agg [AV.d (D.int IntKind.i64 a1_0), AV.d (D.list 1 a1_1)]] by kernel_rfl).trans (F108.eq k (C k) a0_0 a0_1 a1_0 a1_1)
noncomputable def F109.L2 (k : Nat) (call : CallF)  (n : Nat) (v0 : Ovi.Rows) (v1 : Int) (v2 : Int) : Option Res := loopFn P hs call 109 k Try.f109 [1, 1, 0, 0] [] n [(0, AV.d (D.list 1 v0)), (1, AV.d (D.int IntKind.i64 v1)), (5, AV.d (D.int IntKind.i64 v2))] []
theorem F109.L2.zero (k : Nat) (call : CallF)  (v0 : Ovi.Rows) (v1 : Int) (v2 : Int) : F109.L2 k call  0 v0 v1 v2 = none := by kernel_rfl
theorem F109.L2.succ (k : Nat) (call : CallF)  (n : Nat) (v0 : Ovi.Rows) (v1 : Int) (v2 : Int) : F109.L2 k call  (n + 1) v0 v1 v2 = ite' (decide (v2 < (↑(List.length v0) : Int))) (ite' (inR v2 (List.length v0)) (bindI (cellI IntKind.i64 v0 v2.toNat 0) fun n8 => ite' (decide (n8 < v1)) (F109.L2 k call  (n) (v0) (v1) (IntKind.i64.wrap (v2 + (1 : Int)))) (ite' (decide (v2 < (↑(List.length v0) : Int))) (ite' (inR v2 (List.length v0)) (bindI (cellI IntKind.i64 v0 v2.toNat 0) fun n9 => ite' (n9 == v1) (some ([(false, [RL.d (D.list 1 v0)])])) (ite' (inS v2 (↑(List.length v0) : Int) (List.length v0)) (ite' (fits ([[D.int IntKind.i64 v1]].length + (List.drop v2.toNat v0).length)) (ite' (inS (0 : Int) v2 (List.length v0)) (ite' (fits (List.take v2.toNat v0).length) (ite' (fits ((List.take v2.toNat v0).length + List.length ([[D.int IntKind.i64 v1]] ++ List.drop v2.toNat v0))) (some ([(false, [RL.row 3 1 (List.take v2.toNat v0 ++ ([[D.int IntKind.i64 v1]] ++ List.drop v2.toNat v0))])])) (none)) (none)) (none)) (none)) (none))) (none)) (ite' (inS v2 (↑(List.length v0) : Int) (List.length v0)) (ite' (fits ([[D.int IntKind.i64 v1]].length + (List.drop v2.toNat v0).length)) (ite' (inS (0 : Int) v2 (List.length v0)) (ite' (fits (List.take v2.toNat v0).length) (ite' (fits ((List.take v2.toNat v0).length + List.length ([[D.int IntKind.i64 v1]] ++ List.drop v2.toNat v0))) (some ([(false, [RL.row 3 1 (List.take v2.toNat v0 ++ ([[D.int IntKind.i64 v1]] ++ List.drop v2.toNat v0))])])) (none)) (none)) (none)) (none)) (none)))) (none)) (ite' (decide (v2 < (↑(List.length v0) : Int))) (ite' (inR v2 (List.length v0)) (bindI (cellI IntKind.i64 v0 v2.toNat 0) fun n8 => ite' (n8 == v1) (some ([(false, [RL.d (D.list 1 v0)])])) (ite' (inS v2 (↑(List.length v0) : Int) (List.length v0)) (ite' (fits ([[D.int IntKind.i64 v1]].length + (List.drop v2.toNat v0).length)) (ite' (inS (0 : Int) v2 (List.length v0)) (ite' (fits (List.take v2.toNat v0).length) (ite' (fits ((List.take v2.toNat v0).length + List.length ([[D.int IntKind.i64 v1]] ++ List.drop v2.toNat v0))) (some ([(false, [RL.row 3 1 (List.take v2.toNat v0 ++ ([[D.int IntKind.i64 v1]] ++ List.drop v2.toNat v0))])])) (none)) (none)) (none)) (none)) (none))) (none)) (ite' (inS v2 (↑(List.length v0) : Int) (List.length v0)) (ite' (fits ([[D.int IntKind.i64 v1]].length + (List.drop v2.toNat v0).length)) (ite' (inS (0 : Int) v2 (List.length v0)) (ite' (fits (List.take v2.toNat v0).length) (ite' (fits ((List.take v2.toNat v0).length + List.length ([[D.int IntKind.i64 v1]] ++ List.drop v2.toNat v0))) (some ([(false, [RL.row 3 1 (List.take v2.toNat v0 ++ ([[D.int IntKind.i64 v1]] ++ List.drop v2.toNat v0))])])) (none)) (none)) (none)) (none)) (none))) := by kernel_rfl
theorem F109.eq (k : Nat) (call : CallF) (a0 : Ovi.Rows) (a1 : Int) : evFnK P hs call (109 : FuncId) k Try.f109 [AV.d (D.list 1 a0), AV.d (D.int IntKind.i64 a1)] = F109.L2 k call  (k) (a0) (a1) ((0 : Int)) := by kernel_rfl
theorem F109.run (k : Nat) (a0 : Ovi.Rows) (a1 : Int) : C (k + 1) 109 [AV.d (D.list 1 a0), AV.d (D.int IntKind.i64 a1)] = F109.L2 k (C k)  (k) (a0) (a1) ((0 : Int)) := (show C (k + 1) 109 [AV.d (D.list 1 a0), AV.d (D.int IntKind.i64 a1)] = evFnK P hs (C k) 109 k Try.f109 [AV.d (D.list 1 a0), AV.d (D.int IntKind.i64 a1)] by kernel_rfl).trans (F109.eq k (C k) a0 a1)
noncomputable def F110.L2 (k : Nat) (call : CallF)  (n : Nat) (v0 : Ovi.Rows) (v1 : Int) : Option Res := loopFn P hs call 110 k Try.f110 [1, 0, 1, 0] [] n [(0, AV.d (D.list 3 v0)), (3, AV.d (D.int IntKind.i64 v1))] []
theorem F110.L2.zero (k : Nat) (call : CallF)  (v0 : Ovi.Rows) (v1 : Int) : F110.L2 k call  0 v0 v1 = none := by kernel_rfl
theorem F110.L2.succ (k : Nat) (call : CallF)  (n : Nat) (v0 : Ovi.Rows) (v1 : Int) : F110.L2 k call  (n + 1) v0 v1 = ite' (decide (v1 < (↑(List.length v0) : Int))) (ite' (inR v1 (List.length v0)) (bindS (cellS v0 v1.toNat 0) fun s6 => bindI (cellI IntKind.i64 v0 v1.toNat 1) fun n7 => bindB (cellB v0 v1.toNat 2) fun b8 => bindR (call 155 [AV.agg [AV.d (D.str s6), AV.d (D.int IntKind.i64 n7), AV.d (D.bool b8)]]) fun r9 => bindB (resB 1 false 1 r9 0 0) fun b10 => ite' (!b10) (some ([(false, [RL.d (D.bool false)])])) (ite' (decide (v1 > (0 : Int))) (ite' (inR (IntKind.i64.wrap (v1 - (1 : Int))) (List.length v0)) (bindS (cellS v0 (IntKind.i64.wrap (v1 - (1 : Int))).toNat 0) fun s11 => ite' (inR v1 (List.length v0)) (bindS (cellS v0 v1.toNat 0) fun s12 => ite' (!sLess s11 s12) (some ([(false, [RL.d (D.bool false)])])) (F110.L2 k call  (n) (v0) (IntKind.i64.wrap (v1 + (1 : Int))))) (none)) (none)) (F110.L2 k call  (n) (v0) (IntKind.i64.wrap (v1 + (1 : Int)))))) (none)) (some ([(false, [RL.d (D.bool (decide ((↑(List.length v0) : Int) ≤ (6 : Int))))])])) := by kernel_rfl
theorem F110.eq (k : Nat) (call : CallF) (a0 : Ovi.Rows) : evFnK P hs call (110 : FuncId) k Try.f110 [AV.d (D.list 3 a0)] = F110.L2 k call  (k) (a0) ((0 : Int)) := by kernel_rfl
theorem F110.run (k : Nat) (a0 : Ovi.Rows) : C (k + 1) 110 [AV.d (D.list 3 a0)] = F110.L2 k (C k)  (k) (a0) ((0 : Int)) := (show C (k + 1) 110 [AV.d (D.list 3 a0)] = evFnK P hs (C k) 110 k Try.f110 [AV.d (D.list 3 a0)] by kernel_rfl).trans (F110.eq k (C k) a0)
theorem F113.eq (k : Nat) (call : CallF) (a0 : Int) (a1 : Int) (a2 : Int) : evFnK P hs call (113 : FuncId) k Try.f113 [AV.d (D.int IntKind.i64 a0), AV.d (D.int IntKind.i64 a1), AV.d (D.int IntKind.i64 a2)] = ite' (decide (a1 ≤ a0)) (some ([(false, [RL.d (D.bool (decide (a0 ≤ a2)))])])) (some ([(false, [RL.d (D.bool false)])])) := by kernel_rfl
theorem F113.run (k : Nat) (a0 : Int) (a1 : Int) (a2 : Int) : C (k + 1) 113 [AV.d (D.int IntKind.i64 a0), AV.d (D.int IntKind.i64 a1), AV.d (D.int IntKind.i64 a2)] = ite' (decide (a1 ≤ a0)) (some ([(false, [RL.d (D.bool (decide (a0 ≤ a2)))])])) (some ([(false, [RL.d (D.bool false)])])) := (show C (k + 1) 113 [AV.d (D.int IntKind.i64 a0), AV.d (D.int IntKind.i64 a1), AV.d (D.int IntKind.i64 a2)] = evFnK P hs (C k) 113 k Try.f113 [AV.d (D.int IntKind.i64 a0), AV.d (D.int IntKind.i64 a1), AV.d (D.int IntKind.i64 a2)] by kernel_rfl).trans (F113.eq k (C k) a0 a1 a2)
theorem F114.eq (k : Nat) (call : CallF) (a0 : Ovi.Rows) (a1 : FuncId) (a1c : Ovi.Rows) : evFnK P hs call (114 : FuncId) k Try.f114 [AV.d (D.list 2 a0), AV.d (D.fn a1 a1c)] = bindR (call 158 [AV.d (D.list 2 a0), AV.d (D.fn a1 a1c)]) fun r5 => bindI (resI IntKind.i64 1 false 1 r5 0 0) fun n6 => some ([(false, [RL.d (D.bool (decide (n6 ≥ (0 : Int))))])]) := by kernel_rfl
theorem F114.run (k : Nat) (a0 : Ovi.Rows) (a1 : FuncId) (a1c : Ovi.Rows) : C (k + 1) 114 [AV.d (D.list 2 a0), AV.d (D.fn a1 a1c)] = bindR ((C k) 158 [AV.d (D.list 2 a0), AV.d (D.fn a1 a1c)]) fun r5 => bindI (resI IntKind.i64 1 false 1 r5 0 0) fun n6 => some ([(false, [RL.d (D.bool (decide (n6 ≥ (0 : Int))))])]) := (show C (k + 1) 114 [AV.d (D.list 2 a0), AV.d (D.fn a1 a1c)] = evFnK P hs (C k) 114 k Try.f114 [AV.d (D.list 2 a0), AV.d (D.fn a1 a1c)] by kernel_rfl).trans (F114.eq k (C k) a0 a1 a1c)
theorem F115.eq (k : Nat) (call : CallF) (a0_0 : Int) (a0_1 : Ovi.Rows) (c0_0 : Ovi.Rows) : evFnK P hs call (115 : FuncId) k Try.f115 [AV.agg [AV.d (D.int IntKind.i64 a0_0), AV.d (D.list 1 a0_1)], AV.cap [D.list 3 c0_0] 0] = bindR (call 116 [AV.d (D.list 3 c0_0), AV.agg [AV.d (D.int IntKind.i64 a0_0), AV.d (D.list 1 a0_1)]]) fun r5 => bindB (resB 1 false 1 r5 0 0) fun b6 => some ([(false, [RL.d (D.bool !b6)])]) := by kernel_rfl
theorem F115.run (k : Nat) (a0_0 : Int) (a0_1 : Ovi.Rows) (c0_0 : Ovi.Rows) : C (k + 1) 115 [AV.agg [AV.d (D.int IntKind.i64 a0_0), AV.d (D.list 1 a0_1)], AV.cap [D.list 3 c0_0] 0] = bindR ((C k) 116 [AV.d (D.list 3 c0_0), AV.agg [AV.d (D.int IntKind.i64 a0_0), AV.d (D.list 1 a0_1)]]) fun r5 => bindB (resB 1 false 1 r5 0 0) fun b6 => some ([(false, [RL.d (D.bool !b6)])]) := (show C (k + 1) 115 [AV.agg [AV.d (D.int IntKind.i64 a0_0), AV.d (D.list 1 a0_1)], AV.cap [D.list 3 c0_0] 0] = evFnK P hs (C k) 115 k Try.f115 [AV.agg [AV.d (D.int IntKind.i64 a0_0), AV.d (D.list 1 a0_1)], AV.cap [D.list 3 c0_0] 0] by kernel_rfl).trans (F115.eq k (C k) a0_0 a0_1 c0_0)
theorem F116.eq (k : Nat) (call : CallF) (a0 : Ovi.Rows) (a1_0 : Int) (a1_1 : Ovi.Rows) : evFnK P hs call (116 : FuncId) k Try.f116 [AV.d (D.list 3 a0), AV.agg [AV.d (D.int IntKind.i64 a1_0), AV.d (D.list 1 a1_1)]] = bindR (call 123 [AV.d (D.list 3 a0)]) fun r5 => bindB (resB 1 false 1 r5 0 0) fun b6 => ite' (!b6) (some ([(false, [RL.d (D.bool false)])])) (bindR (call 113 [AV.d (D.int IntKind.i64 a1_0), AV.d (D.int IntKind.i64 (0 : Int)), AV.d (D.int IntKind.i64 (IntKind.i64.wrap ((↑(List.length a0) : Int) - (1 : Int))))]) fun r7 => bindB (resB 1 false 1 r7 0 0) fun b8 => ite' (!b8) (some ([(false, [RL.d (D.bool false)])])) (ite' (inR a1_0 (List.length a0)) (bindI (cellI IntKind.i64 a0 a1_0.toNat 1) fun n9 => ite' ((↑(List.length a1_1) : Int) != n9) (some ([(false, [RL.d (D.bool false)])])) (bindR (call 69 [AV.d (D.list 1 a1_1), AV.d (D.fn 159 [])]) fun r10 => bindB (resB 1 false 1 r10 0 0) fun b11 => some ([(false, [RL.d (D.bool !b11)])]))) (none))) := by kernel_rfl
theorem F116.run (k : Nat) (a0 : Ovi.Rows) (a1_0 : Int) (a1_1 : Ovi.Rows) : C (k + 1) 116 [AV.d (D.list 3 a0), AV.agg [AV.d (D.int IntKind.i64 a1_0), AV.d (D.list 1 a1_1)]] = bindR ((C k) 123 [AV.d (D.list 3 a0)]) fun r5 => bindB (resB 1 false 1 r5 0 0) fun b6 => ite' (!b6) (some ([(false, [RL.d (D.bool false)])])) (bindR ((C k) 113 [AV.d (D.int IntKind.i64 a1_0), AV.d (D.int IntKind.i64 (0 : Int)), AV.d (D.int IntKind.i64 (IntKind.i64.wrap ((↑(List.length a0) : Int) - (1 : Int))))]) fun r7 => bindB (resB 1 false 1 r7 0 0) fun b8 => ite' (!b8) (some ([(false, [RL.d (D.bool false)])])) (ite' (inR a1_0 (List.length a0)) (bindI (cellI IntKind.i64 a0 a1_0.toNat 1) fun n9 => ite' ((↑(List.length a1_1) : Int) != n9) (some ([(false, [RL.d (D.bool false)])])) (bindR ((C k) 69 [AV.d (D.list 1 a1_1), AV.d (D.fn 159 [])]) fun r10 => bindB (resB 1 false 1 r10 0 0) fun b11 => some ([(false, [RL.d (D.bool !b11)])]))) (none))) := (show C (k + 1) 116 [AV.d (D.list 3 a0), AV.agg [AV.d (D.int IntKind.i64 a1_0), AV.d (D.list 1 a1_1)]] = evFnK P hs (C k) 116 k Try.f116 [AV.d (D.list 3 a0), AV.agg [AV.d (D.int IntKind.i64 a1_0), AV.d (D.list 1 a1_1)]] by kernel_rfl).trans (F116.eq k (C k) a0 a1_0 a1_1)
noncomputable def F117.L2 (k : Nat) (call : CallF)  (n : Nat) (v0 : Ovi.Rows) (v1 : FuncId) (v2 : Ovi.Rows) (v3 : Int) (v4 : Int) : Option Res := loopFn P hs call 117 k Try.f117 [1, 0, 1, 0] [] n [(0, AV.d (D.list 1 v0)), (1, AV.d (D.fn v1 v2)), (7, AV.d (D.int IntKind.i64 v3)), (8, AV.d (D.int IntKind.i64 v4))] []
theorem F117.L2.zero (k : Nat) (call : CallF)  (v0 : Ovi.Rows) (v1 : FuncId) (v2 : Ovi.Rows) (v3 : Int) (v4 : Int) : F117.L2 k call  0 v0 v1 v2 v3 v4 = none := by kernel_rfl
theorem F117.L2.succ (k : Nat) (call : CallF)  (n : Nat) (v0 : Ovi.Rows) (v1 : FuncId) (v2 : Ovi.Rows) (v3 : Int) (v4 : Int) : F117.L2 k call  (n + 1) v0 v1 v2 v3 v4 = ite' (decide (v4 < v3)) (ite' (inR v4 (List.length v0)) (bindI (cellI IntKind.i64 v0 v4.toNat 0) fun n11 => bindR (call v1 (AV.d (D.int IntKind.i64 n11) :: [].append (List.map (fun (c : List D) => AV.cap c 0) v2))) fun r12 => bindB (resB 1 false 1 r12 0 0) fun b13 => ite' (b13) (some ([(false, [RL.d (D.int IntKind.i64 v4)])])) (F117.L2 k call  (n) (v0) (v1) (v2) (v3) (IntKind.i64.wrap (v4 + (1 : Int))))) (none)) (some ([(false, [RL.d (D.int IntKind.i64 (-1 : Int))])])) := by kernel_rfl
theorem F117.eq (k : Nat) (call : CallF) (a0 : Ovi.Rows) (a1 : FuncId) (a1c : Ovi.Rows) : evFnK P hs call (117 : FuncId) k Try.f117 [AV.d (D.list 1 a0), AV.d (D.fn a1 a1c)] = F117.L2 k call  (k) (a0) (a1) (a1c) ((↑(List.length a0) : Int)) ((0 : Int)) := by kernel_rfl
theorem F117.run (k : Nat) (a0 : Ovi.Rows) (a1 : FuncId) (a1c : Ovi.Rows) : C (k + 1) 117 [AV.d (D.list 1 a0), AV.d (D.fn a1 a1c)] = F117.L2 k (C k)  (k) (a0) (a1) (a1c) ((↑(List.length a0) : Int)) ((0 : Int)) := (show C (k + 1) 117 [AV.d (D.list 1 a0), AV.d (D.fn a1 a1c)] = evFnK P hs (C k) 117 k Try.f117 [AV.d (D.list 1 a0), AV.d (D.fn a1 a1c)] by kernel_rfl).trans (F117.eq k (C k) a0 a1 a1c)
noncomputable def F118.L2 (k : Nat) (call : CallF)  (n : Nat) (v0 : Ovi.Rows) (v1 : Int) (v2 : Int) (v3 : Int) : Option Res := loopFn P hs call 118 k Try.f118 [1, 0, 1, 0] [] n [(0, AV.d (D.list 1 v0)), (1, AV.d (D.int IntKind.i64 v1)), (7, AV.d (D.int IntKind.i64 v2)), (8, AV.d (D.int IntKind.i64 v3))] []
theorem F118.L2.zero (k : Nat) (call : CallF)  (v0 : Ovi.Rows) (v1 : Int) (v2 : Int) (v3 : Int) : F118.L2 k call  0 v0 v1 v2 v3 = none := by kernel_rfl
theorem F118.L2.succ (k : Nat) (call : CallF)  (n : Nat) (v0 : Ovi.Rows) (v1 : Int) (v2 : Int) (v3 : Int) : F118.L2 k call  (n + 1) v0 v1 v2 v3 = ite' (decide (v3 < v2)) (ite' (inR v3 (List.length v0)) (bindI (cellI IntKind.i64 v0 v3.toNat 0) fun n9 => ite' (v1 == n9) (some ([(false, [RL.d (D.int IntKind.i64 v3)])])) (F118.L2 k call  (n) (v0) (v1) (v2) (IntKind.i64.wrap (v3 + (1 : Int))))) (none)) (some ([(false, [RL.d (D.int IntKind.i64 (-1 : Int))])])) := by kernel_rfl
theorem F118.eq (k : Nat) (call : CallF) (a0 : Ovi.Rows) (a1 : Int) : evFnK P hs call (118 : FuncId) k Try.f118 [AV.d (D.list 1 a0), AV.d (D.int IntKind.i64 a1)] = F118.L2 k call  (k) (a0) (a1) ((↑(List.length a0) : Int)) ((0 : Int)) := by kernel_rfl
theorem F118.run (k : Nat) (a0 : Ovi.Rows) (a1 : Int) : C (k + 1) 118 [AV.d (D.list 1 a0), AV.d (D.int IntKind.i64 a1)] = F118.L2 k (C k)  (k) (a0) (a1) ((↑(List.length a0) : Int)) ((0 : Int)) := (show C (k + 1) 118 [AV.d (D.list 1 a0), AV.d (D.int IntKind.i64 a1)] = evFnK P hs (C k) 118 k Try.f118 [AV.d (D.list 1 a0), AV.d (D.int IntKind.i64 a1)] by kernel_rfl).trans (F118.eq k (C k) a0 a1)
noncomputable def F123.L2 (k : Nat) (call : CallF)  (n : Nat) (v0 : Ovi.Rows) (v1 : Ovi.Rows) (v2 : Int) (v3 : Int) : Option Res := loopFn P hs call 123 k Try.f123 [1, 0, 1, 0] [] n [(0, AV.d (D.list 3 v0)), (5, AV.d (D.list 3 v1)), (6, AV.d (D.int IntKind.i64 v2)), (7, AV.d (D.int IntKind.i64 v3))] []
theorem F123.L2.zero (k : Nat) (call : CallF)  (v0 : Ovi.Rows) (v1 : Ovi.Rows) (v2 : Int) (v3 : Int) : F123.L2 k call  0 v0 v1 v2 v3 = none := by kernel_rfl
theorem F123.L2.succ (k : Nat) (call : CallF)  (n : Nat) (v0 : Ovi.Rows) (v1 : Ovi.Rows) (v2 : Int) (v3 : Int) : F123.L2 k call  (n + 1) v0 v1 v2 v3 = ite' (decide (v3 < v2)) (ite' (inR v3 (List.length v1)) (bindS (cellS v1 v3.toNat 0) fun s8 => bindI (cellI IntKind.i64 v1 v3.toNat 1) fun n9 => bindB (cellB v1 v3.toNat 2) fun b10 => bindR (call 160 [AV.agg [AV.d (D.str s8), AV.d (D.int IntKind.i64 n9), AV.d (D.bool b10)]]) fun r11 => bindB (resB 1 false 1 r11 0 0) fun b12 => ite' (!b12) (some ([(false, [RL.d (D.bool false)])])) (ite' (decide (v3 > (0 : Int))) (ite' (inR (IntKind.i64.wrap (v3 - (1 : Int))) (List.length v0)) (bindS (cellS v0 (IntKind.i64.wrap (v3 - (1 : Int))).toNat 0) fun s13 => ite' (sLess s8 s13 || s8 == s13) (some ([(false, [RL.d (D.bool false)])])) (F123.L2 k call  (n) (v0) (v1) (v2) (IntKind.i64.wrap (v3 + (1 : Int))))) (none)) (F123.L2 k call  (n) (v0) (v1) (v2) (IntKind.i64.wrap (v3 + (1 : Int)))))) (none)) (some ([(false, [RL.d (D.bool (decide ((↑(List.length v0) : Int) ≤ (6 : Int))))])])) := by kernel_rfl
theorem F123.eq (k : Nat) (call : CallF) (a0 : Ovi.Rows) : evFnK P hs call (123 : FuncId) k Try.f123 [AV.d (D.list 3 a0)] = F123.L2 k call  (k) (a0) (a0) ((↑(List.length a0) : Int)) ((0 : Int)) := by kernel_rfl
theorem F123.run (k : Nat) (a0 : Ovi.Rows) : C (k + 1) 123 [AV.d (D.list 3 a0)] = F123.L2 k (C k)  (k) (a0) (a0) ((↑(List.length a0) : Int)) ((0 : Int)) := (show C (k + 1) 123 [AV.d (D.list 3 a0)] = evFnK P hs (C k) 123 k Try.f123 [AV.d (D.list 3 a0)] by kernel_rfl).trans (F123.eq k (C k) a0)
theorem F155.eq (k : Nat) (call : CallF) (a0_0 : List UInt8) (a0_1 : Int) (a0_2 : Bool) : evFnK P hs call (155 : FuncId) k Try.f155 [AV.agg [AV.d (D.str a0_0), AV.d (D.int IntKind.i64 a0_1), AV.d (D.bool a0_2)]] = ite' ((↑a0_0.length : Int) == (1 : Int)) (ite' (inR (0 : Int) a0_0.length) (ite' (decide (byteAt a0_0 (0 : Int) ≥ (97 : Int))) (ite' (inR (0 : Int) a0_0.length) (ite' (decide (byteAt a0_0 (0 : Int) ≤ (122 : Int))) (bindR (call 65 [AV.d (D.int IntKind.i64 a0_1), AV.d (D.int IntKind.i64 (1 : Int)), AV.d (D.int IntKind.i64 (3 : Int))]) fun r5 => bindB (resB 1 false 1 r5 0 0) fun b6 => some ([(false, [RL.d (D.bool b6)])])) (some ([(false, [RL.d (D.bool false)])]))) (none)) (some ([(false, [RL.d (D.bool false)])]))) (none)) (some ([(false, [RL.d (D.bool false)])])) := by kernel_rfl
theorem F155.run (k : Nat) (a0_0 : List UInt8) (a0_1 : Int) (a0_2 : Bool) : C (k + 1) 155 [AV.agg [AV.d (D.str a0_0), AV.d (D.int IntKind.i64 a0_1), AV.d (D.bool a0_2)]] = ite' ((↑a0_0.length : Int) == (1 : Int)) (ite' (inR (0 : Int) a0_0.length) (ite' (decide (byteAt a0_0 (0 : Int) ≥ (97 : Int))) (ite' (inR (0 : Int) a0_0.length) (ite' (decide (byteAt a0_0 (0 : Int) ≤ (122 : Int))) (bindR ((C k) 65 [AV.d (D.int IntKind.i64 a0_1), AV.d (D.int IntKind.i64 (1 : Int)), AV.d (D.int IntKind.i64 (3 : Int))]) fun r5 => bindB (resB 1 false 1 r5 0 0) fun b6 => some ([(false, [RL.d (D.bool b6)])])) (some ([(false, [RL.d (D.bool false)])]))) (none)) (some ([(false, [RL.d (D.bool false)])]))) (none)) (some ([(false, [RL.d (D.bool false)])])) := (show C (k + 1) 155 [AV.agg [AV.d (D.str a0_0), AV.d (D.int IntKind.i64 a0_1), AV.d (D.bool a0_2)]] = evFnK P hs (C k) 155 k Try.f155 [AV.agg [AV.d (D.str a0_0), AV.d (D.int IntKind.i64 a0_1), AV.d (D.bool a0_2)]] by kernel_rfl).trans (F155.eq k (C k) a0_0 a0_1 a0_2)
noncomputable def F158.L2 (k : Nat) (call : CallF)  (n : Nat) (v0 : Ovi.Rows) (v1 : FuncId) (v2 : Ovi.Rows) (v3 : Int) (v4 : Int) : Option Res := loopFn P hs call 158 k Try.f158 [1, 0, 1, 0] [] n [(0, AV.d (D.list 2 v0)), (1, AV.d (D.fn v1 v2)), (7, AV.d (D.int IntKind.i64 v3)), (8, AV.d (D.int IntKind.i64 v4))] []
theorem F158.L2.zero (k : Nat) (call : CallF)  (v0 : Ovi.Rows) (v1 : FuncId) (v2 : Ovi.Rows) (v3 : Int) (v4 : Int) : F158.L2 k call  0 v0 v1 v2 v3 v4 = none := by kernel_rfl
theorem F158.L2.succ (k : Nat) (call : CallF)  (n : Nat) (v0 : Ovi.Rows) (v1 : FuncId) (v2 : Ovi.Rows) (v3 : Int) (v4 : Int) : F158.L2 k call  (n + 1) v0 v1 v2 v3 v4 = ite' (decide (v4 < v3)) (ite' (inR v4 (List.length v0)) (bindI (cellI IntKind.i64 v0 v4.toNat 0) fun n11 => bindL (cellL 1 v0 v4.toNat 1) fun l12 => bindR (call v1 (AV.agg [AV.d (D.int IntKind.i64 n11), AV.d (D.list 1 l12)] :: [].append (List.map (fun (c : List D) => AV.cap c 0) v2))) fun r13 => bindB (resB 1 false 1 r13 0 0) fun b14 => ite' (b14) (some ([(false, [RL.d (D.int IntKind.i64 v4)])])) (F158.L2 k call  (n) (v0) (v1) (v2) (v3) (IntKind.i64.wrap (v4 + (1 : Int))))) (none)) (some ([(false, [RL.d (D.int IntKind.i64 (-1 : Int))])])) := by kernel_rfl
theorem F158.eq (k : Nat) (call : CallF) (a0 : Ovi.Rows) (a1 : FuncId) (a1c : Ovi.Rows) : evFnK P hs call (158 : FuncId) k Try.f158 [AV.d (D.list 2 a0), AV.d (D.fn a1 a1c)] = F158.L2 k call  (k) (a0) (a1) (a1c) ((↑(List.length a0) : Int)) ((0 : Int)) := by kernel_rfl
theorem F158.run (k : Nat) (a0 : Ovi.Rows) (a1 : FuncId) (a1c : Ovi.Rows) : C (k + 1) 158 [AV.d (D.list 2 a0), AV.d (D.fn a1 a1c)] = F158.L2 k (C k)  (k) (a0) (a1) (a1c) ((↑(List.length a0) : Int)) ((0 : Int)) := (show C (k + 1) 158 [AV.d (D.list 2 a0), AV.d (D.fn a1 a1c)] = evFnK P hs (C k) 158 k Try.f158 [AV.d (D.list 2 a0), AV.d (D.fn a1 a1c)] by kernel_rfl).trans (F158.eq k (C k) a0 a1 a1c)
theorem F159.eq (k : Nat) (call : CallF) (a0 : Int) : evFnK P hs call (159 : FuncId) k Try.f159 [AV.d (D.int IntKind.i64 a0)] = bindR (call 113 [AV.d (D.int IntKind.i64 a0), AV.d (D.int IntKind.i64 (-10 : Int)), AV.d (D.int IntKind.i64 (4 : Int))]) fun r3 => bindB (resB 1 false 1 r3 0 0) fun b4 => some ([(false, [RL.d (D.bool !b4)])]) := by kernel_rfl
theorem F159.run (k : Nat) (a0 : Int) : C (k + 1) 159 [AV.d (D.int IntKind.i64 a0)] = bindR ((C k) 113 [AV.d (D.int IntKind.i64 a0), AV.d (D.int IntKind.i64 (-10 : Int)), AV.d (D.int IntKind.i64 (4 : Int))]) fun r3 => bindB (resB 1 false 1 r3 0 0) fun b4 => some ([(false, [RL.d (D.bool !b4)])]) := (show C (k + 1) 159 [AV.d (D.int IntKind.i64 a0)] = evFnK P hs (C k) 159 k Try.f159 [AV.d (D.int IntKind.i64 a0)] by kernel_rfl).trans (F159.eq k (C k) a0)
theorem F160.eq (k : Nat) (call : CallF) (a0_0 : List UInt8) (a0_1 : Int) (a0_2 : Bool) : evFnK P hs call (160 : FuncId) k Try.f160 [AV.agg [AV.d (D.str a0_0), AV.d (D.int IntKind.i64 a0_1), AV.d (D.bool a0_2)]] = ite' ((↑a0_0.length : Int) == (1 : Int)) (ite' (!sLess a0_0 ([(97 : UInt8)] : List UInt8)) (ite' (sLess a0_0 ([(122 : UInt8)] : List UInt8) || a0_0 == ([(122 : UInt8)] : List UInt8)) (bindR (call 113 [AV.d (D.int IntKind.i64 a0_1), AV.d (D.int IntKind.i64 (1 : Int)), AV.d (D.int IntKind.i64 (3 : Int))]) fun r5 => bindB (resB 1 false 1 r5 0 0) fun b6 => some ([(false, [RL.d (D.bool b6)])])) (some ([(false, [RL.d (D.bool false)])]))) (some ([(false, [RL.d (D.bool false)])]))) (some ([(false, [RL.d (D.bool false)])])) := by kernel_rfl
theorem F160.run (k : Nat) (a0_0 : List UInt8) (a0_1 : Int) (a0_2 : Bool) : C (k + 1) 160 [AV.agg [AV.d (D.str a0_0), AV.d (D.int IntKind.i64 a0_1), AV.d (D.bool a0_2)]] = ite' ((↑a0_0.length : Int) == (1 : Int)) (ite' (!sLess a0_0 ([(97 : UInt8)] : List UInt8)) (ite' (sLess a0_0 ([(122 : UInt8)] : List UInt8) || a0_0 == ([(122 : UInt8)] : List UInt8)) (bindR ((C k) 113 [AV.d (D.int IntKind.i64 a0_1), AV.d (D.int IntKind.i64 (1 : Int)), AV.d (D.int IntKind.i64 (3 : Int))]) fun r5 => bindB (resB 1 false 1 r5 0 0) fun b6 => some ([(false, [RL.d (D.bool b6)])])) (some ([(false, [RL.d (D.bool false)])]))) (some ([(false, [RL.d (D.bool false)])]))) (some ([(false, [RL.d (D.bool false)])])) := (show C (k + 1) 160 [AV.agg [AV.d (D.str a0_0), AV.d (D.int IntKind.i64 a0_1), AV.d (D.bool a0_2)]] = evFnK P hs (C k) 160 k Try.f160 [AV.agg [AV.d (D.str a0_0), AV.d (D.int IntKind.i64 a0_1), AV.d (D.bool a0_2)]] by kernel_rfl).trans (F160.eq k (C k) a0_0 a0_1 a0_2)

end Go.Proofs.Ytekcjghbfbfmpaa.Q

/-! Shelf1 -/
/-
  DERIVED: THE SHELF's CONTRACTS AT THIS DUMP, IN PLAIN WORDS (tools/lay-plain.mjs out of 'TryShelf.lean', which tools/lay-shelf.mjs wrote): THE SAME DECLARATIONS UNDER THE SAME NAMES: 'import', 'namespace', 'open', 'def', 'theorem' AND NOTHING ELSE: no command of the shelf's: FOR A HAND-IN. Each laying: the table of numbers ('.._ren') and one theorem, a field a fact of the dump's own or the kernel's comparison; each contract: ONE APPLICATION.
-/
namespace Go.Proofs
open Go.Shelf
def Try.lays189_ren : Go.Shelf.Ren := ⟨fun | 189 => 111 | 125 => 157 | 257 => 156 | 128 => 186 | 129 => 187 | 294 => 177 | 295 => 178 | 296 => 179 | 297 => 180 | 298 => 181 | 299 => 182 | 216 => 183 | 300 => 184 | 301 => 185 | 328 => 199 | 329 => 200 | 330 => 201 | 331 => 202 | 332 => 203 | 215 => 188 | 343 => 207 | n => n, fun | 28 => 22 | 3 => 3 | 46 => 171 | 0 => 0 | 51 => 189 | 53 => 191 | 4 => 4 | 183 => 182 | 182 => 181 | 131 => 127 | 5 => 5 | 9 => 9 | 218 => 198 | 222 => 202 | 228 => 206 | 229 => 207 | n => n, fun | n => n⟩
theorem Try.lays189 : Go.Proofs.Lays.n189 Try.prog Try.lays189_ren := {
  mixed := by kernel_rfl
  f125 := Try.func157.trans (congrArg some (by kernel_rfl))
  f128 := Try.func186.trans (congrArg some (by kernel_rfl))
  f129 := Try.func187.trans (congrArg some (by kernel_rfl))
  f189 := Try.func111.trans (congrArg some (by kernel_rfl))
  f215 := Try.func188.trans (congrArg some (by kernel_rfl))
  f216 := Try.func183.trans (congrArg some (by kernel_rfl))
  f257 := Try.func156.trans (congrArg some (by kernel_rfl))
  f294 := Try.func177.trans (congrArg some (by kernel_rfl))
  f295 := Try.func178.trans (congrArg some (by kernel_rfl))
  f296 := Try.func179.trans (congrArg some (by kernel_rfl))
  f297 := Try.func180.trans (congrArg some (by kernel_rfl))
  f298 := Try.func181.trans (congrArg some (by kernel_rfl))
  f299 := Try.func182.trans (congrArg some (by kernel_rfl))
  f300 := Try.func184.trans (congrArg some (by kernel_rfl))
  f301 := Try.func185.trans (congrArg some (by kernel_rfl))
  f328 := Try.func199.trans (congrArg some (by kernel_rfl))
  f329 := Try.func200.trans (congrArg some (by kernel_rfl))
  f330 := Try.func201.trans (congrArg some (by kernel_rfl))
  f331 := Try.func202.trans (congrArg some (by kernel_rfl))
  f332 := Try.func203.trans (congrArg some (by kernel_rfl))
  f343 := Try.func207.trans (congrArg some (by kernel_rfl))
  t0 := Try.underlying0
  a0 := Try.isAgg0
  z0 := Try.sizeOf0
  v0 := Try.zeroValue0
  t3 := Try.underlying3
  a3 := Try.isAgg3
  z3 := Try.sizeOf3
  v3 := Try.zeroValue3
  t4 := Try.underlying4
  a4 := Try.isAgg4
  z4 := Try.sizeOf4
  v4 := Try.zeroValue4
  t5 := Try.underlying5
  a5 := Try.isAgg5
  z5 := Try.sizeOf5
  v5 := Try.zeroValue5
  t9 := Try.underlying9
  a9 := Try.isAgg9
  z9 := Try.sizeOf9
  v9 := Try.zeroValue9
  t28 := Try.underlying22
  a28 := Try.isAgg22
  z28 := Try.sizeOf22
  v28 := Try.zeroValue22
  t46 := Try.underlying171
  a46 := Try.isAgg171
  z46 := Try.sizeOf171
  v46 := Try.zeroValue171
  t51 := Try.underlying189
  a51 := Try.isAgg189
  z51 := Try.sizeOf189
  v51 := Try.zeroValue189
  t53 := Try.underlying191
  a53 := Try.isAgg191
  z53 := Try.sizeOf191
  v53 := Try.zeroValue191
  t131 := Try.underlying127
  a131 := Try.isAgg127
  z131 := Try.sizeOf127
  v131 := Try.zeroValue127
  t182 := Try.underlying181
  a182 := Try.isAgg181
  z182 := Try.sizeOf181
  v182 := Try.zeroValue181
  t183 := Try.underlying182
  a183 := Try.isAgg182
  z183 := Try.sizeOf182
  v183 := Try.zeroValue182
  t218 := Try.underlying198
  a218 := Try.isAgg198
  z218 := Try.sizeOf198
  v218 := Try.zeroValue198
  t222 := Try.underlying202
  a222 := Try.isAgg202
  z222 := Try.sizeOf202
  v222 := Try.zeroValue202
  t228 := Try.underlying206
  a228 := Try.isAgg206
  z228 := Try.sizeOf206
  v228 := Try.zeroValue206
  t229 := Try.underlying207
  a229 := Try.isAgg207
  z229 := Try.sizeOf207
  v229 := Try.zeroValue207 }
def Try.lays2n20_ren : Go.Shelf.Ren := ⟨fun | 20 => 112 | n => n, fun | 22 => 22 | 3 => 3 | 4 => 4 | 0 => 0 | n => n, fun | n => n⟩
theorem Try.lays2n20 : Go.Proofs.Lays2.n20 Try.prog Try.lays2n20_ren := {
  mixed := by kernel_rfl
  f20 := Try.func112.trans (congrArg some (by kernel_rfl))
  t0 := Try.underlying0
  a0 := Try.isAgg0
  z0 := Try.sizeOf0
  v0 := Try.zeroValue0
  t3 := Try.underlying3
  a3 := Try.isAgg3
  z3 := Try.sizeOf3
  v3 := Try.zeroValue3
  t4 := Try.underlying4
  a4 := Try.isAgg4
  z4 := Try.sizeOf4
  v4 := Try.zeroValue4
  t22 := Try.underlying22
  a22 := Try.isAgg22
  z22 := Try.sizeOf22
  v22 := Try.zeroValue22
  i3 := by kernel_rfl }
def Try.lays2n15_ren : Go.Shelf.Ren := ⟨fun | 15 => 189 | n => n, fun | 22 => 22 | 3 => 3 | 4 => 4 | n => n, fun | n => n⟩
theorem Try.lays2n15 : Go.Proofs.Lays2.n15 Try.prog Try.lays2n15_ren := {
  mixed := by kernel_rfl
  f15 := Try.func189.trans (congrArg some (by kernel_rfl))
  t3 := Try.underlying3
  a3 := Try.isAgg3
  z3 := Try.sizeOf3
  v3 := Try.zeroValue3
  t4 := Try.underlying4
  a4 := Try.isAgg4
  z4 := Try.sizeOf4
  v4 := Try.zeroValue4
  t22 := Try.underlying22
  a22 := Try.isAgg22
  z22 := Try.sizeOf22
  v22 := Try.zeroValue22
  i3 := by kernel_rfl }
end Go.Proofs

/-! Sa -/
namespace Go.Proofs.Ytekcjghbfbfmpaa.Q
open Go Ovi Go.RowKit
theorem ok : progOk Try.prog = true := by kernel_rfl
theorem mixed : Try.prog.follows .mixedOrders = true := by kernel_rfl
theorem bare (k : Nat) : Sound Try.prog (evCall Try.prog hs (fun _ => none) k) := evCall_ok (drawSound mixed) (okProg ok) (fun _ _ => rfl) (sound_none _) k
theorem sort_nil : evCall Try.prog hs (fun _ => none) 8 111 [.d (.list 1 [])] = some [] := by kernel_rfl
theorem sortC : SortC Try.prog 111 where
  known := ⟨Try.f111, Try.func111, rfl, by kernel_rfl⟩
  run := fun blk off cap zs w hH hb hl => Any.slices_Sort_int Try.lays189 blk off cap zs w hH hb hl
  nil := fun A w => by
    refine ((bare 8).plain 111 _ _ sort_nil w (fun _ => False) (fun _ => False) #[.slice A 0 0] (fun _ h => h.elim) (fun _ h => h.elim) ⟨rfl, fun j a ha => ?_⟩).mono fun e w' ⟨v, S', mr, he, hb, _, _, hr⟩ => ?_
    · cases j with
      | zero => cases ha; exact ⟨_, rfl, RD.nil A 1⟩
      | succ j => simp at ha
    · obtain ⟨⟨vs, h1, h2, _⟩, _⟩ := hr
      obtain rfl := List.eq_nil_of_length_eq_zero h2
      exact ⟨by rw [he, h1], hb⟩
theorem compactC : CompactC Try.prog 112 where
  known := ⟨Try.f112, Try.func112, rfl, by kernel_rfl⟩
  run := fun blk off cap zs w hH hb hl => Any.slices_Compact_int Try.lays2n20 blk off cap zs w hH hb hl
  nil := fun A cap w => Any.slices_Compact_int_empty Try.lays2n20 A cap w
theorem cloneC : CloneC Try.prog 189 3 where
  known := ⟨Try.f189, Try.func189, rfl, by kernel_rfl⟩
  run := fun b off n c zs w hz hb hc => Any.slices_Clone_int Try.lays2n15 b off n c zs w hz hb hc
  nil := fun n c w => Any.slices_Clone_int_nil Try.lays2n15 n c w
  zero := fun a c w => Any.slices_Clone_int_zero Try.lays2n15 a c w
theorem sound (k : Nat) : Sound Try.prog (C k) := evCall_ok (drawSound mixed) (okProg ok) (fun _ _ => rfl) (sound3 sortC compactC cloneC) k
end Go.Proofs.Ytekcjghbfbfmpaa.Q
