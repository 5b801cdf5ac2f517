/-
  The law RouteTrue: its three loops.
  The law RouteTrue: its third loop.
  The law RouteTrue: its second loop.
  The law RouteTrue.
-/
import Derived.Test.YtapimpmpjighmaaDoorBunP
import Derived.Test.YtapimpmpjighmaaDoorBunN
import Derived.Deep.RegionHeld3
import Derived.Test.YtapimpmpjighmaaDoorBunA
set_option linter.unusedSimpArgs false
set_option linter.unusedVariables false
namespace Go.Proofs.YtapimpmpjighmaaDoor
open Go Go.RowKit
set_option maxRecDepth 100000

theorem rt1_open {B k : Nat} {key : ByteArray} {q : Int} {vl vq vp : Value} {is : Bool} {c : Bool} {j : Nat} {t : Array Value} (h : t = #[t.getD 0 undef, .int .i64 (k : Int), .string key, .int .i64 q, .pointer (some ⟨B, 0, none⟩), t.getD 5 undef, t.getD 6 undef, t.getD 7 undef, .bool false, vl, .bool is, t.getD 11 undef, vq, t.getD 13 undef, vp, t.getD 15 undef, .bool c, .int .i64 (j : Int), t.getD 18 undef, t.getD 19 undef, t.getD 20 undef, t.getD 21 undef, t.getD 22 undef, t.getD 23 undef, t.getD 24 undef, t.getD 25 undef, t.getD 26 undef, t.getD 27 undef, t.getD 28 undef, t.getD 29 undef, t.getD 30 undef, t.getD 31 undef, t.getD 32 undef, t.getD 33 undef, t.getD 34 undef, t.getD 35 undef, t.getD 36 undef, t.getD 37 undef, t.getD 38 undef, t.getD 39 undef, t.getD 40 undef, t.getD 41 undef, t.getD 42 undef, t.getD 43 undef, t.getD 44 undef, t.getD 45 undef, t.getD 46 undef, t.getD 47 undef, t.getD 48 undef, t.getD 49 undef, t.getD 50 undef, t.getD 51 undef, t.getD 52 undef, t.getD 53 undef, t.getD 54 undef, t.getD 55 undef, t.getD 56 undef, t.getD 57 undef, t.getD 58 undef, t.getD 59 undef, t.getD 60 undef, t.getD 61 undef, t.getD 62 undef, t.getD 63 undef, t.getD 64 undef, t.getD 65 undef, t.getD 66 undef, t.getD 67 undef, t.getD 68 undef, t.getD 69 undef, t.getD 70 undef, t.getD 71 undef, t.getD 72 undef, t.getD 73 undef, t.getD 74 undef, t.getD 75 undef, t.getD 76 undef, t.getD 77 undef, t.getD 78 undef, t.getD 79 undef, t.getD 80 undef, t.getD 81 undef, t.getD 82 undef, t.getD 83 undef, t.getD 84 undef, t.getD 85 undef, t.getD 86 undef, t.getD 87 undef, t.getD 88 undef, t.getD 89 undef, t.getD 90 undef, t.getD 91 undef, t.getD 92 undef, t.getD 93 undef, t.getD 94 undef, t.getD 95 undef, t.getD 96 undef, t.getD 97 undef, t.getD 98 undef, t.getD 99 undef, t.getD 100 undef, t.getD 101 undef, t.getD 102 undef, t.getD 103 undef, t.getD 104 undef, t.getD 105 undef, t.getD 106 undef, t.getD 107 undef, t.getD 108 undef, t.getD 109 undef, t.getD 110 undef, t.getD 111 undef, t.getD 112 undef, t.getD 113 undef, t.getD 114 undef, t.getD 115 undef, t.getD 116 undef, t.getD 117 undef, t.getD 118 undef, t.getD 119 undef, t.getD 120 undef, t.getD 121 undef, t.getD 122 undef, t.getD 123 undef, t.getD 124 undef, t.getD 125 undef, t.getD 126 undef, t.getD 127 undef, t.getD 128 undef, t.getD 129 undef, t.getD 130 undef, t.getD 131 undef, t.getD 132 undef, t.getD 133 undef, t.getD 134 undef, t.getD 135 undef, t.getD 136 undef, t.getD 137 undef, t.getD 138 undef, t.getD 139 undef, t.getD 140 undef, t.getD 141 undef, t.getD 142 undef, t.getD 143 undef, t.getD 144 undef, t.getD 145 undef, t.getD 146 undef, t.getD 147 undef, t.getD 148 undef, t.getD 149 undef, t.getD 150 undef, t.getD 151 undef, t.getD 152 undef, t.getD 153 undef, t.getD 154 undef, t.getD 155 undef, t.getD 156 undef, t.getD 157 undef, t.getD 158 undef, t.getD 159 undef, t.getD 160 undef, t.getD 161 undef, t.getD 162 undef, t.getD 163 undef, t.getD 164 undef, t.getD 165 undef, t.getD 166 undef, t.getD 167 undef, t.getD 168 undef, t.getD 169 undef, t.getD 170 undef, t.getD 171 undef, t.getD 172 undef, t.getD 173 undef, t.getD 174 undef, t.getD 175 undef, t.getD 176 undef, t.getD 177 undef, t.getD 178 undef, t.getD 179 undef, t.getD 180 undef, t.getD 181 undef, t.getD 182 undef, t.getD 183 undef, t.getD 184 undef, t.getD 185 undef, t.getD 186 undef, t.getD 187 undef, t.getD 188 undef, t.getD 189 undef, t.getD 190 undef, t.getD 191 undef, t.getD 192 undef, t.getD 193 undef, t.getD 194 undef, t.getD 195 undef, t.getD 196 undef]) : ∃ u : Nat → Value, t = #[u 0, .int .i64 (k : Int), .string key, .int .i64 q, .pointer (some ⟨B, 0, none⟩), u 5, u 6, u 7, .bool false, vl, .bool is, u 11, vq, u 13, vp, u 15, .bool c, .int .i64 (j : Int), u 18, u 19, u 20, u 21, u 22, u 23, u 24, u 25, u 26, u 27, u 28, u 29, u 30, u 31, u 32, u 33, u 34, u 35, u 36, u 37, u 38, u 39, u 40, u 41, u 42, u 43, u 44, u 45, u 46, u 47, u 48, u 49, u 50, u 51, u 52, u 53, u 54, u 55, u 56, u 57, u 58, u 59, u 60, u 61, u 62, u 63, u 64, u 65, u 66, u 67, u 68, u 69, u 70, u 71, u 72, u 73, u 74, u 75, u 76, u 77, u 78, u 79, u 80, u 81, u 82, u 83, u 84, u 85, u 86, u 87, u 88, u 89, u 90, u 91, u 92, u 93, u 94, u 95, u 96, u 97, u 98, u 99, u 100, u 101, u 102, u 103, u 104, u 105, u 106, u 107, u 108, u 109, u 110, u 111, u 112, u 113, u 114, u 115, u 116, u 117, u 118, u 119, u 120, u 121, u 122, u 123, u 124, u 125, u 126, u 127, u 128, u 129, u 130, u 131, u 132, u 133, u 134, u 135, u 136, u 137, u 138, u 139, u 140, u 141, u 142, u 143, u 144, u 145, u 146, u 147, u 148, u 149, u 150, u 151, u 152, u 153, u 154, u 155, u 156, u 157, u 158, u 159, u 160, u 161, u 162, u 163, u 164, u 165, u 166, u 167, u 168, u 169, u 170, u 171, u 172, u 173, u 174, u 175, u 176, u 177, u 178, u 179, u 180, u 181, u 182, u 183, u 184, u 185, u 186, u 187, u 188, u 189, u 190, u 191, u 192, u 193, u 194, u 195, u 196] := ⟨fun i => t.getD i undef, h⟩

theorem rt2_open {B : Nat} {key : ByteArray} {q : Int} {vl vp : Value} {x : Int} {j : Nat} {t : Array Value} (h : t = #[t.getD 0 undef, t.getD 1 undef, .string key, .int .i64 q, .pointer (some ⟨B, 0, none⟩), t.getD 5 undef, t.getD 6 undef, t.getD 7 undef, .bool false, vl, t.getD 10 undef, t.getD 11 undef, t.getD 12 undef, t.getD 13 undef, vp, t.getD 15 undef, t.getD 16 undef, t.getD 17 undef, .int .i64 x, .int .i64 (j : Int), t.getD 20 undef, t.getD 21 undef, t.getD 22 undef, t.getD 23 undef, t.getD 24 undef, t.getD 25 undef, t.getD 26 undef, t.getD 27 undef, t.getD 28 undef, t.getD 29 undef, t.getD 30 undef, t.getD 31 undef, t.getD 32 undef, t.getD 33 undef, t.getD 34 undef, t.getD 35 undef, t.getD 36 undef, t.getD 37 undef, t.getD 38 undef, t.getD 39 undef, t.getD 40 undef, t.getD 41 undef, t.getD 42 undef, t.getD 43 undef, t.getD 44 undef, t.getD 45 undef, t.getD 46 undef, t.getD 47 undef, t.getD 48 undef, t.getD 49 undef, t.getD 50 undef, t.getD 51 undef, t.getD 52 undef, t.getD 53 undef, t.getD 54 undef, t.getD 55 undef, t.getD 56 undef, t.getD 57 undef, t.getD 58 undef, t.getD 59 undef, t.getD 60 undef, t.getD 61 undef, t.getD 62 undef, t.getD 63 undef, t.getD 64 undef, t.getD 65 undef, t.getD 66 undef, t.getD 67 undef, t.getD 68 undef, t.getD 69 undef, t.getD 70 undef, t.getD 71 undef, t.getD 72 undef, t.getD 73 undef, t.getD 74 undef, t.getD 75 undef, t.getD 76 undef, t.getD 77 undef, t.getD 78 undef, t.getD 79 undef, t.getD 80 undef, t.getD 81 undef, t.getD 82 undef, t.getD 83 undef, t.getD 84 undef, t.getD 85 undef, t.getD 86 undef, t.getD 87 undef, t.getD 88 undef, t.getD 89 undef, t.getD 90 undef, t.getD 91 undef, t.getD 92 undef, t.getD 93 undef, t.getD 94 undef, t.getD 95 undef, t.getD 96 undef, t.getD 97 undef, t.getD 98 undef, t.getD 99 undef, t.getD 100 undef, t.getD 101 undef, t.getD 102 undef, t.getD 103 undef, t.getD 104 undef, t.getD 105 undef, t.getD 106 undef, t.getD 107 undef, t.getD 108 undef, t.getD 109 undef, t.getD 110 undef, t.getD 111 undef, t.getD 112 undef, t.getD 113 undef, t.getD 114 undef, t.getD 115 undef, t.getD 116 undef, t.getD 117 undef, t.getD 118 undef, t.getD 119 undef, t.getD 120 undef, t.getD 121 undef, t.getD 122 undef, t.getD 123 undef, t.getD 124 undef, t.getD 125 undef, t.getD 126 undef, t.getD 127 undef, t.getD 128 undef, t.getD 129 undef, t.getD 130 undef, t.getD 131 undef, t.getD 132 undef, t.getD 133 undef, t.getD 134 undef, t.getD 135 undef, t.getD 136 undef, t.getD 137 undef, t.getD 138 undef, t.getD 139 undef, t.getD 140 undef, t.getD 141 undef, t.getD 142 undef, t.getD 143 undef, t.getD 144 undef, t.getD 145 undef, t.getD 146 undef, t.getD 147 undef, t.getD 148 undef, t.getD 149 undef, t.getD 150 undef, t.getD 151 undef, t.getD 152 undef, t.getD 153 undef, t.getD 154 undef, t.getD 155 undef, t.getD 156 undef, t.getD 157 undef, t.getD 158 undef, t.getD 159 undef, t.getD 160 undef, t.getD 161 undef, t.getD 162 undef, t.getD 163 undef, t.getD 164 undef, t.getD 165 undef, t.getD 166 undef, t.getD 167 undef, t.getD 168 undef, t.getD 169 undef, t.getD 170 undef, t.getD 171 undef, t.getD 172 undef, t.getD 173 undef, t.getD 174 undef, t.getD 175 undef, t.getD 176 undef, t.getD 177 undef, t.getD 178 undef, t.getD 179 undef, t.getD 180 undef, t.getD 181 undef, t.getD 182 undef, t.getD 183 undef, t.getD 184 undef, t.getD 185 undef, t.getD 186 undef, t.getD 187 undef, t.getD 188 undef, t.getD 189 undef, t.getD 190 undef, t.getD 191 undef, t.getD 192 undef, t.getD 193 undef, t.getD 194 undef, t.getD 195 undef, t.getD 196 undef]) : ∃ u : Nat → Value, t = #[u 0, u 1, .string key, .int .i64 q, .pointer (some ⟨B, 0, none⟩), u 5, u 6, u 7, .bool false, vl, u 10, u 11, u 12, u 13, vp, u 15, u 16, u 17, .int .i64 x, .int .i64 (j : Int), u 20, u 21, u 22, u 23, u 24, u 25, u 26, u 27, u 28, u 29, u 30, u 31, u 32, u 33, u 34, u 35, u 36, u 37, u 38, u 39, u 40, u 41, u 42, u 43, u 44, u 45, u 46, u 47, u 48, u 49, u 50, u 51, u 52, u 53, u 54, u 55, u 56, u 57, u 58, u 59, u 60, u 61, u 62, u 63, u 64, u 65, u 66, u 67, u 68, u 69, u 70, u 71, u 72, u 73, u 74, u 75, u 76, u 77, u 78, u 79, u 80, u 81, u 82, u 83, u 84, u 85, u 86, u 87, u 88, u 89, u 90, u 91, u 92, u 93, u 94, u 95, u 96, u 97, u 98, u 99, u 100, u 101, u 102, u 103, u 104, u 105, u 106, u 107, u 108, u 109, u 110, u 111, u 112, u 113, u 114, u 115, u 116, u 117, u 118, u 119, u 120, u 121, u 122, u 123, u 124, u 125, u 126, u 127, u 128, u 129, u 130, u 131, u 132, u 133, u 134, u 135, u 136, u 137, u 138, u 139, u 140, u 141, u 142, u 143, u 144, u 145, u 146, u 147, u 148, u 149, u 150, u 151, u 152, u 153, u 154, u 155, u 156, u 157, u 158, u 159, u 160, u 161, u 162, u 163, u 164, u 165, u 166, u 167, u 168, u 169, u 170, u 171, u 172, u 173, u 174, u 175, u 176, u 177, u 178, u 179, u 180, u 181, u 182, u 183, u 184, u 185, u 186, u 187, u 188, u 189, u 190, u 191, u 192, u 193, u 194, u 195, u 196] := ⟨fun i => t.getD i undef, h⟩

theorem rt3_open {B : Nat} {key : ByteArray} {q : Int} {vl vp : Value} {x : Int} {j i bb : Nat} {c : Bool} {t : Array Value} (h : t = #[t.getD 0 undef, t.getD 1 undef, .string key, .int .i64 q, .pointer (some ⟨B, 0, none⟩), t.getD 5 undef, t.getD 6 undef, t.getD 7 undef, .bool false, vl, t.getD 10 undef, t.getD 11 undef, t.getD 12 undef, t.getD 13 undef, vp, t.getD 15 undef, t.getD 16 undef, t.getD 17 undef, .int .i64 x, .int .i64 (j : Int), .pointer (some ⟨bb, 0, none⟩), .bool true, .int .i64 0, .bool c, .int .i64 (i : Int), t.getD 25 undef, t.getD 26 undef, t.getD 27 undef, t.getD 28 undef, t.getD 29 undef, t.getD 30 undef, t.getD 31 undef, t.getD 32 undef, t.getD 33 undef, t.getD 34 undef, t.getD 35 undef, t.getD 36 undef, t.getD 37 undef, t.getD 38 undef, t.getD 39 undef, t.getD 40 undef, t.getD 41 undef, t.getD 42 undef, t.getD 43 undef, t.getD 44 undef, t.getD 45 undef, t.getD 46 undef, t.getD 47 undef, t.getD 48 undef, t.getD 49 undef, t.getD 50 undef, t.getD 51 undef, t.getD 52 undef, t.getD 53 undef, t.getD 54 undef, t.getD 55 undef, t.getD 56 undef, t.getD 57 undef, t.getD 58 undef, t.getD 59 undef, t.getD 60 undef, t.getD 61 undef, t.getD 62 undef, t.getD 63 undef, t.getD 64 undef, t.getD 65 undef, t.getD 66 undef, t.getD 67 undef, t.getD 68 undef, t.getD 69 undef, t.getD 70 undef, t.getD 71 undef, t.getD 72 undef, t.getD 73 undef, t.getD 74 undef, t.getD 75 undef, t.getD 76 undef, t.getD 77 undef, t.getD 78 undef, t.getD 79 undef, t.getD 80 undef, t.getD 81 undef, t.getD 82 undef, t.getD 83 undef, t.getD 84 undef, t.getD 85 undef, t.getD 86 undef, t.getD 87 undef, t.getD 88 undef, t.getD 89 undef, t.getD 90 undef, t.getD 91 undef, t.getD 92 undef, t.getD 93 undef, t.getD 94 undef, t.getD 95 undef, t.getD 96 undef, t.getD 97 undef, t.getD 98 undef, t.getD 99 undef, t.getD 100 undef, t.getD 101 undef, t.getD 102 undef, t.getD 103 undef, t.getD 104 undef, t.getD 105 undef, t.getD 106 undef, t.getD 107 undef, t.getD 108 undef, t.getD 109 undef, t.getD 110 undef, t.getD 111 undef, t.getD 112 undef, t.getD 113 undef, t.getD 114 undef, t.getD 115 undef, t.getD 116 undef, t.getD 117 undef, t.getD 118 undef, t.getD 119 undef, t.getD 120 undef, t.getD 121 undef, t.getD 122 undef, t.getD 123 undef, t.getD 124 undef, t.getD 125 undef, t.getD 126 undef, t.getD 127 undef, t.getD 128 undef, t.getD 129 undef, t.getD 130 undef, t.getD 131 undef, t.getD 132 undef, t.getD 133 undef, t.getD 134 undef, t.getD 135 undef, t.getD 136 undef, t.getD 137 undef, t.getD 138 undef, t.getD 139 undef, t.getD 140 undef, t.getD 141 undef, t.getD 142 undef, t.getD 143 undef, t.getD 144 undef, t.getD 145 undef, t.getD 146 undef, t.getD 147 undef, t.getD 148 undef, t.getD 149 undef, t.getD 150 undef, t.getD 151 undef, t.getD 152 undef, t.getD 153 undef, t.getD 154 undef, t.getD 155 undef, t.getD 156 undef, t.getD 157 undef, t.getD 158 undef, t.getD 159 undef, t.getD 160 undef, t.getD 161 undef, t.getD 162 undef, t.getD 163 undef, t.getD 164 undef, t.getD 165 undef, t.getD 166 undef, t.getD 167 undef, t.getD 168 undef, t.getD 169 undef, t.getD 170 undef, t.getD 171 undef, t.getD 172 undef, t.getD 173 undef, t.getD 174 undef, t.getD 175 undef, t.getD 176 undef, t.getD 177 undef, t.getD 178 undef, t.getD 179 undef, t.getD 180 undef, t.getD 181 undef, t.getD 182 undef, t.getD 183 undef, t.getD 184 undef, t.getD 185 undef, t.getD 186 undef, t.getD 187 undef, t.getD 188 undef, t.getD 189 undef, t.getD 190 undef, t.getD 191 undef, t.getD 192 undef, t.getD 193 undef, t.getD 194 undef, t.getD 195 undef, t.getD 196 undef]) : ∃ u : Nat → Value, t = #[u 0, u 1, .string key, .int .i64 q, .pointer (some ⟨B, 0, none⟩), u 5, u 6, u 7, .bool false, vl, u 10, u 11, u 12, u 13, vp, u 15, u 16, u 17, .int .i64 x, .int .i64 (j : Int), .pointer (some ⟨bb, 0, none⟩), .bool true, .int .i64 0, .bool c, .int .i64 (i : Int), u 25, u 26, u 27, u 28, u 29, u 30, u 31, u 32, u 33, u 34, u 35, u 36, u 37, u 38, u 39, u 40, u 41, u 42, u 43, u 44, u 45, u 46, u 47, u 48, u 49, u 50, u 51, u 52, u 53, u 54, u 55, u 56, u 57, u 58, u 59, u 60, u 61, u 62, u 63, u 64, u 65, u 66, u 67, u 68, u 69, u 70, u 71, u 72, u 73, u 74, u 75, u 76, u 77, u 78, u 79, u 80, u 81, u 82, u 83, u 84, u 85, u 86, u 87, u 88, u 89, u 90, u 91, u 92, u 93, u 94, u 95, u 96, u 97, u 98, u 99, u 100, u 101, u 102, u 103, u 104, u 105, u 106, u 107, u 108, u 109, u 110, u 111, u 112, u 113, u 114, u 115, u 116, u 117, u 118, u 119, u 120, u 121, u 122, u 123, u 124, u 125, u 126, u 127, u 128, u 129, u 130, u 131, u 132, u 133, u 134, u 135, u 136, u 137, u 138, u 139, u 140, u 141, u 142, u 143, u 144, u 145, u 146, u 147, u 148, u 149, u 150, u 151, u 152, u 153, u 154, u 155, u 156, u 157, u 158, u 159, u 160, u 161, u 162, u 163, u 164, u 165, u 166, u 167, u 168, u 169, u 170, u 171, u 172, u 173, u 174, u 175, u 176, u 177, u 178, u 179, u 180, u 181, u 182, u 183, u 184, u 185, u 186, u 187, u 188, u 189, u 190, u 191, u 192, u 193, u 194, u 195, u 196] := ⟨fun i => t.getD i undef, h⟩

/-- A row of ints that is read, in all that comes. -/
def IntsIn (W0 : World) (v : Value) (xs : List Int) : Prop := ∃ a c, v = .slice a xs.length c ∧ xs.length ≤ 1048576 ∧ Sl W0 0 W0.heap.size a (xs.map (Value.int .i64))
theorem IntsIn.at_ {W0 W : World} {a : Option Addr} {c : Nat} {xs : List Int} (h : Sl W0 0 W0.heap.size a (xs.map (Value.int .i64))) (hb : Below W0.heap.size W0 W) {j : Nat} (hj : j < xs.length) : ∃ b o, a = some ⟨b, o, none⟩ ∧ ∀ i, (hi : i < xs.length) → W.cell? ⟨b, o + i, none⟩ = some (.int .i64 xs[i]) := by
  obtain ⟨b, o, rfl, h1, h2⟩ := sl_int h hj
  refine ⟨b, o, rfl, fun i hi => ?_⟩
  obtain ⟨b', o', e, h3, h4⟩ := sl_int h hi
  simp only [Option.some.injEq, Addr.mk.injEq] at e
  obtain ⟨rfl, rfl, _⟩ := e
  exact (hb.cell (p := ⟨b, o + i, none⟩) h1).trans h4

noncomputable def rtLoop1 : Code := loopAt Tryd.f10 0
noncomputable def rtLoop2 : Code := loopAt Tryd.f10 1
noncomputable def rtLoop3 : Code := loopIn rtLoop2 0
theorem mem_step {xs : List Int} {j : Nat} (hj : j < xs.length) (q : Int) : decide (q ∈ xs.take (j + 1)) = (decide (q ∈ xs.take j) || decide (xs[j] = q)) := by
  rw [List.take_succ_eq_append_getElem hj]
  simp only [List.mem_append, List.mem_singleton, Bool.decide_or]
  congr 1
  simp [eq_comm]

set_option maxHeartbeats 4000000 in
theorem rt_loop1 (B k : Nat) (key : ByteArray) (q : Int) (vl vq vp : Value) (is : Bool) (qs : List Int) (W0 : World) (hq : IntsIn W0 vq qs) (hasc : qs.Pairwise (· < ·)) (Q0 : Exit → Act → World → Prop)
    (hend : ∀ (t : Array Value) (W : World) (c : Bool) (j : Nat), c = decide (q ∈ qs) → t = #[t.getD 0 undef, .int .i64 (k : Int), .string key, .int .i64 q, .pointer (some ⟨B, 0, none⟩), t.getD 5 undef, t.getD 6 undef, t.getD 7 undef, .bool false, vl, .bool is, t.getD 11 undef, vq, t.getD 13 undef, vp, t.getD 15 undef, .bool c, .int .i64 (j : Int), t.getD 18 undef, t.getD 19 undef, t.getD 20 undef, t.getD 21 undef, t.getD 22 undef, t.getD 23 undef, t.getD 24 undef, t.getD 25 undef, t.getD 26 undef, t.getD 27 undef, t.getD 28 undef, t.getD 29 undef, t.getD 30 undef, t.getD 31 undef, t.getD 32 undef, t.getD 33 undef, t.getD 34 undef, t.getD 35 undef, t.getD 36 undef, t.getD 37 undef, t.getD 38 undef, t.getD 39 undef, t.getD 40 undef, t.getD 41 undef, t.getD 42 undef, t.getD 43 undef, t.getD 44 undef, t.getD 45 undef, t.getD 46 undef, t.getD 47 undef, t.getD 48 undef, t.getD 49 undef, t.getD 50 undef, t.getD 51 undef, t.getD 52 undef, t.getD 53 undef, t.getD 54 undef, t.getD 55 undef, t.getD 56 undef, t.getD 57 undef, t.getD 58 undef, t.getD 59 undef, t.getD 60 undef, t.getD 61 undef, t.getD 62 undef, t.getD 63 undef, t.getD 64 undef, t.getD 65 undef, t.getD 66 undef, t.getD 67 undef, t.getD 68 undef, t.getD 69 undef, t.getD 70 undef, t.getD 71 undef, t.getD 72 undef, t.getD 73 undef, t.getD 74 undef, t.getD 75 undef, t.getD 76 undef, t.getD 77 undef, t.getD 78 undef, t.getD 79 undef, t.getD 80 undef, t.getD 81 undef, t.getD 82 undef, t.getD 83 undef, t.getD 84 undef, t.getD 85 undef, t.getD 86 undef, t.getD 87 undef, t.getD 88 undef, t.getD 89 undef, t.getD 90 undef, t.getD 91 undef, t.getD 92 undef, t.getD 93 undef, t.getD 94 undef, t.getD 95 undef, t.getD 96 undef, t.getD 97 undef, t.getD 98 undef, t.getD 99 undef, t.getD 100 undef, t.getD 101 undef, t.getD 102 undef, t.getD 103 undef, t.getD 104 undef, t.getD 105 undef, t.getD 106 undef, t.getD 107 undef, t.getD 108 undef, t.getD 109 undef, t.getD 110 undef, t.getD 111 undef, t.getD 112 undef, t.getD 113 undef, t.getD 114 undef, t.getD 115 undef, t.getD 116 undef, t.getD 117 undef, t.getD 118 undef, t.getD 119 undef, t.getD 120 undef, t.getD 121 undef, t.getD 122 undef, t.getD 123 undef, t.getD 124 undef, t.getD 125 undef, t.getD 126 undef, t.getD 127 undef, t.getD 128 undef, t.getD 129 undef, t.getD 130 undef, t.getD 131 undef, t.getD 132 undef, t.getD 133 undef, t.getD 134 undef, t.getD 135 undef, t.getD 136 undef, t.getD 137 undef, t.getD 138 undef, t.getD 139 undef, t.getD 140 undef, t.getD 141 undef, t.getD 142 undef, t.getD 143 undef, t.getD 144 undef, t.getD 145 undef, t.getD 146 undef, t.getD 147 undef, t.getD 148 undef, t.getD 149 undef, t.getD 150 undef, t.getD 151 undef, t.getD 152 undef, t.getD 153 undef, t.getD 154 undef, t.getD 155 undef, t.getD 156 undef, t.getD 157 undef, t.getD 158 undef, t.getD 159 undef, t.getD 160 undef, t.getD 161 undef, t.getD 162 undef, t.getD 163 undef, t.getD 164 undef, t.getD 165 undef, t.getD 166 undef, t.getD 167 undef, t.getD 168 undef, t.getD 169 undef, t.getD 170 undef, t.getD 171 undef, t.getD 172 undef, t.getD 173 undef, t.getD 174 undef, t.getD 175 undef, t.getD 176 undef, t.getD 177 undef, t.getD 178 undef, t.getD 179 undef, t.getD 180 undef, t.getD 181 undef, t.getD 182 undef, t.getD 183 undef, t.getD 184 undef, t.getD 185 undef, t.getD 186 undef, t.getD 187 undef, t.getD 188 undef, t.getD 189 undef, t.getD 190 undef, t.getD 191 undef, t.getD 192 undef, t.getD 193 undef, t.getD 194 undef, t.getD 195 undef, t.getD 196 undef] → Below W0.heap.size W0 W → Q0 (.exit 0) ⟨t, []⟩ W) (t : Array Value) (c : Bool) (j : Nat) (W : World) (ht : t = #[t.getD 0 undef, .int .i64 (k : Int), .string key, .int .i64 q, .pointer (some ⟨B, 0, none⟩), t.getD 5 undef, t.getD 6 undef, t.getD 7 undef, .bool false, vl, .bool is, t.getD 11 undef, vq, t.getD 13 undef, vp, t.getD 15 undef, .bool c, .int .i64 (j : Int), t.getD 18 undef, t.getD 19 undef, t.getD 20 undef, t.getD 21 undef, t.getD 22 undef, t.getD 23 undef, t.getD 24 undef, t.getD 25 undef, t.getD 26 undef, t.getD 27 undef, t.getD 28 undef, t.getD 29 undef, t.getD 30 undef, t.getD 31 undef, t.getD 32 undef, t.getD 33 undef, t.getD 34 undef, t.getD 35 undef, t.getD 36 undef, t.getD 37 undef, t.getD 38 undef, t.getD 39 undef, t.getD 40 undef, t.getD 41 undef, t.getD 42 undef, t.getD 43 undef, t.getD 44 undef, t.getD 45 undef, t.getD 46 undef, t.getD 47 undef, t.getD 48 undef, t.getD 49 undef, t.getD 50 undef, t.getD 51 undef, t.getD 52 undef, t.getD 53 undef, t.getD 54 undef, t.getD 55 undef, t.getD 56 undef, t.getD 57 undef, t.getD 58 undef, t.getD 59 undef, t.getD 60 undef, t.getD 61 undef, t.getD 62 undef, t.getD 63 undef, t.getD 64 undef, t.getD 65 undef, t.getD 66 undef, t.getD 67 undef, t.getD 68 undef, t.getD 69 undef, t.getD 70 undef, t.getD 71 undef, t.getD 72 undef, t.getD 73 undef, t.getD 74 undef, t.getD 75 undef, t.getD 76 undef, t.getD 77 undef, t.getD 78 undef, t.getD 79 undef, t.getD 80 undef, t.getD 81 undef, t.getD 82 undef, t.getD 83 undef, t.getD 84 undef, t.getD 85 undef, t.getD 86 undef, t.getD 87 undef, t.getD 88 undef, t.getD 89 undef, t.getD 90 undef, t.getD 91 undef, t.getD 92 undef, t.getD 93 undef, t.getD 94 undef, t.getD 95 undef, t.getD 96 undef, t.getD 97 undef, t.getD 98 undef, t.getD 99 undef, t.getD 100 undef, t.getD 101 undef, t.getD 102 undef, t.getD 103 undef, t.getD 104 undef, t.getD 105 undef, t.getD 106 undef, t.getD 107 undef, t.getD 108 undef, t.getD 109 undef, t.getD 110 undef, t.getD 111 undef, t.getD 112 undef, t.getD 113 undef, t.getD 114 undef, t.getD 115 undef, t.getD 116 undef, t.getD 117 undef, t.getD 118 undef, t.getD 119 undef, t.getD 120 undef, t.getD 121 undef, t.getD 122 undef, t.getD 123 undef, t.getD 124 undef, t.getD 125 undef, t.getD 126 undef, t.getD 127 undef, t.getD 128 undef, t.getD 129 undef, t.getD 130 undef, t.getD 131 undef, t.getD 132 undef, t.getD 133 undef, t.getD 134 undef, t.getD 135 undef, t.getD 136 undef, t.getD 137 undef, t.getD 138 undef, t.getD 139 undef, t.getD 140 undef, t.getD 141 undef, t.getD 142 undef, t.getD 143 undef, t.getD 144 undef, t.getD 145 undef, t.getD 146 undef, t.getD 147 undef, t.getD 148 undef, t.getD 149 undef, t.getD 150 undef, t.getD 151 undef, t.getD 152 undef, t.getD 153 undef, t.getD 154 undef, t.getD 155 undef, t.getD 156 undef, t.getD 157 undef, t.getD 158 undef, t.getD 159 undef, t.getD 160 undef, t.getD 161 undef, t.getD 162 undef, t.getD 163 undef, t.getD 164 undef, t.getD 165 undef, t.getD 166 undef, t.getD 167 undef, t.getD 168 undef, t.getD 169 undef, t.getD 170 undef, t.getD 171 undef, t.getD 172 undef, t.getD 173 undef, t.getD 174 undef, t.getD 175 undef, t.getD 176 undef, t.getD 177 undef, t.getD 178 undef, t.getD 179 undef, t.getD 180 undef, t.getD 181 undef, t.getD 182 undef, t.getD 183 undef, t.getD 184 undef, t.getD 185 undef, t.getD 186 undef, t.getD 187 undef, t.getD 188 undef, t.getD 189 undef, t.getD 190 undef, t.getD 191 undef, t.getD 192 undef, t.getD 193 undef, t.getD 194 undef, t.getD 195 undef, t.getD 196 undef]) (hj : j ≤ qs.length) (hc : c = decide (q ∈ qs.take j)) (hW : Below W0.heap.size W0 W) :
    (Code.loop rtLoop1).wp Tryd.prog Q0 ⟨t, []⟩ W := by
  refine wp_loop (fun a wr => ∃ (t : Array Value) (c : Bool) (j : Nat), t = #[t.getD 0 undef, .int .i64 (k : Int), .string key, .int .i64 q, .pointer (some ⟨B, 0, none⟩), t.getD 5 undef, t.getD 6 undef, t.getD 7 undef, .bool false, vl, .bool is, t.getD 11 undef, vq, t.getD 13 undef, vp, t.getD 15 undef, .bool c, .int .i64 (j : Int), t.getD 18 undef, t.getD 19 undef, t.getD 20 undef, t.getD 21 undef, t.getD 22 undef, t.getD 23 undef, t.getD 24 undef, t.getD 25 undef, t.getD 26 undef, t.getD 27 undef, t.getD 28 undef, t.getD 29 undef, t.getD 30 undef, t.getD 31 undef, t.getD 32 undef, t.getD 33 undef, t.getD 34 undef, t.getD 35 undef, t.getD 36 undef, t.getD 37 undef, t.getD 38 undef, t.getD 39 undef, t.getD 40 undef, t.getD 41 undef, t.getD 42 undef, t.getD 43 undef, t.getD 44 undef, t.getD 45 undef, t.getD 46 undef, t.getD 47 undef, t.getD 48 undef, t.getD 49 undef, t.getD 50 undef, t.getD 51 undef, t.getD 52 undef, t.getD 53 undef, t.getD 54 undef, t.getD 55 undef, t.getD 56 undef, t.getD 57 undef, t.getD 58 undef, t.getD 59 undef, t.getD 60 undef, t.getD 61 undef, t.getD 62 undef, t.getD 63 undef, t.getD 64 undef, t.getD 65 undef, t.getD 66 undef, t.getD 67 undef, t.getD 68 undef, t.getD 69 undef, t.getD 70 undef, t.getD 71 undef, t.getD 72 undef, t.getD 73 undef, t.getD 74 undef, t.getD 75 undef, t.getD 76 undef, t.getD 77 undef, t.getD 78 undef, t.getD 79 undef, t.getD 80 undef, t.getD 81 undef, t.getD 82 undef, t.getD 83 undef, t.getD 84 undef, t.getD 85 undef, t.getD 86 undef, t.getD 87 undef, t.getD 88 undef, t.getD 89 undef, t.getD 90 undef, t.getD 91 undef, t.getD 92 undef, t.getD 93 undef, t.getD 94 undef, t.getD 95 undef, t.getD 96 undef, t.getD 97 undef, t.getD 98 undef, t.getD 99 undef, t.getD 100 undef, t.getD 101 undef, t.getD 102 undef, t.getD 103 undef, t.getD 104 undef, t.getD 105 undef, t.getD 106 undef, t.getD 107 undef, t.getD 108 undef, t.getD 109 undef, t.getD 110 undef, t.getD 111 undef, t.getD 112 undef, t.getD 113 undef, t.getD 114 undef, t.getD 115 undef, t.getD 116 undef, t.getD 117 undef, t.getD 118 undef, t.getD 119 undef, t.getD 120 undef, t.getD 121 undef, t.getD 122 undef, t.getD 123 undef, t.getD 124 undef, t.getD 125 undef, t.getD 126 undef, t.getD 127 undef, t.getD 128 undef, t.getD 129 undef, t.getD 130 undef, t.getD 131 undef, t.getD 132 undef, t.getD 133 undef, t.getD 134 undef, t.getD 135 undef, t.getD 136 undef, t.getD 137 undef, t.getD 138 undef, t.getD 139 undef, t.getD 140 undef, t.getD 141 undef, t.getD 142 undef, t.getD 143 undef, t.getD 144 undef, t.getD 145 undef, t.getD 146 undef, t.getD 147 undef, t.getD 148 undef, t.getD 149 undef, t.getD 150 undef, t.getD 151 undef, t.getD 152 undef, t.getD 153 undef, t.getD 154 undef, t.getD 155 undef, t.getD 156 undef, t.getD 157 undef, t.getD 158 undef, t.getD 159 undef, t.getD 160 undef, t.getD 161 undef, t.getD 162 undef, t.getD 163 undef, t.getD 164 undef, t.getD 165 undef, t.getD 166 undef, t.getD 167 undef, t.getD 168 undef, t.getD 169 undef, t.getD 170 undef, t.getD 171 undef, t.getD 172 undef, t.getD 173 undef, t.getD 174 undef, t.getD 175 undef, t.getD 176 undef, t.getD 177 undef, t.getD 178 undef, t.getD 179 undef, t.getD 180 undef, t.getD 181 undef, t.getD 182 undef, t.getD 183 undef, t.getD 184 undef, t.getD 185 undef, t.getD 186 undef, t.getD 187 undef, t.getD 188 undef, t.getD 189 undef, t.getD 190 undef, t.getD 191 undef, t.getD 192 undef, t.getD 193 undef, t.getD 194 undef, t.getD 195 undef, t.getD 196 undef] ∧ j ≤ qs.length ∧ c = decide (q ∈ qs.take j) ∧ Below W0.heap.size W0 wr ∧ a = ⟨t, []⟩) (fun a _ => qs.length - (intOf (a.tmps.getD 17 undef)).toNat) ⟨t, c, j, ht, hj, hc, hW, rfl⟩ ?_
  clear ht hj hc hW t c j W
  rintro a' wr ⟨t, c, j, ht, hj, hc, hW, rfl⟩
  obtain ⟨u, rfl⟩ := rt1_open ht
  clear ht
  obtain ⟨a, cp, rfl, hlen, hsl⟩ := hq
  have HC := Lib.hid hc
  have HW := Lib.hid hW
  have HEND := Lib.hid hend
  clear hc hW hend
  conv => arg 2; whnf
  by_cases hlt : j < qs.length
  · obtain ⟨b, o, rfl, hcell⟩ := IntsIn.at_ (c := cp) hsl HW.out hlt
    have m0 := hcell j hlt
    have hst := mem_step hlt q
    rw [← HC.out] at hst
    have HST := Lib.hid hst
    have HAS : Hid (∀ h : 0 < j, ∃ z : Int, wr.cell? ⟨b, o + (j - 1), none⟩ = some (.int .i64 z) ∧ z < qs[j]) := Lib.hid fun h => ⟨_, hcell (j - 1) (by omega), List.pairwise_iff_getElem.1 hasc (j - 1) j (by omega) hlt (by omega)⟩
    clear hsl hcell hst
    generalize qs[j] = y at *
    have HLT := Lib.hid hlt
    have hj2 : (j : Int) < (qs.length : Int) := by omega
    have HR : Hid (∀ c' : Bool, c' = (c || decide (y = q)) → ∀ t : Array Value, ∀ (j' : Nat), j' = j + 1 → t = #[t.getD 0 undef, .int .i64 (k : Int), .string key, .int .i64 q, .pointer (some ⟨B, 0, none⟩), t.getD 5 undef, t.getD 6 undef, t.getD 7 undef, .bool false, vl, .bool is, t.getD 11 undef, .slice (some ⟨b, o, none⟩) qs.length cp, t.getD 13 undef, vp, t.getD 15 undef, .bool c', .int .i64 (j' : Int), t.getD 18 undef, t.getD 19 undef, t.getD 20 undef, t.getD 21 undef, t.getD 22 undef, t.getD 23 undef, t.getD 24 undef, t.getD 25 undef, t.getD 26 undef, t.getD 27 undef, t.getD 28 undef, t.getD 29 undef, t.getD 30 undef, t.getD 31 undef, t.getD 32 undef, t.getD 33 undef, t.getD 34 undef, t.getD 35 undef, t.getD 36 undef, t.getD 37 undef, t.getD 38 undef, t.getD 39 undef, t.getD 40 undef, t.getD 41 undef, t.getD 42 undef, t.getD 43 undef, t.getD 44 undef, t.getD 45 undef, t.getD 46 undef, t.getD 47 undef, t.getD 48 undef, t.getD 49 undef, t.getD 50 undef, t.getD 51 undef, t.getD 52 undef, t.getD 53 undef, t.getD 54 undef, t.getD 55 undef, t.getD 56 undef, t.getD 57 undef, t.getD 58 undef, t.getD 59 undef, t.getD 60 undef, t.getD 61 undef, t.getD 62 undef, t.getD 63 undef, t.getD 64 undef, t.getD 65 undef, t.getD 66 undef, t.getD 67 undef, t.getD 68 undef, t.getD 69 undef, t.getD 70 undef, t.getD 71 undef, t.getD 72 undef, t.getD 73 undef, t.getD 74 undef, t.getD 75 undef, t.getD 76 undef, t.getD 77 undef, t.getD 78 undef, t.getD 79 undef, t.getD 80 undef, t.getD 81 undef, t.getD 82 undef, t.getD 83 undef, t.getD 84 undef, t.getD 85 undef, t.getD 86 undef, t.getD 87 undef, t.getD 88 undef, t.getD 89 undef, t.getD 90 undef, t.getD 91 undef, t.getD 92 undef, t.getD 93 undef, t.getD 94 undef, t.getD 95 undef, t.getD 96 undef, t.getD 97 undef, t.getD 98 undef, t.getD 99 undef, t.getD 100 undef, t.getD 101 undef, t.getD 102 undef, t.getD 103 undef, t.getD 104 undef, t.getD 105 undef, t.getD 106 undef, t.getD 107 undef, t.getD 108 undef, t.getD 109 undef, t.getD 110 undef, t.getD 111 undef, t.getD 112 undef, t.getD 113 undef, t.getD 114 undef, t.getD 115 undef, t.getD 116 undef, t.getD 117 undef, t.getD 118 undef, t.getD 119 undef, t.getD 120 undef, t.getD 121 undef, t.getD 122 undef, t.getD 123 undef, t.getD 124 undef, t.getD 125 undef, t.getD 126 undef, t.getD 127 undef, t.getD 128 undef, t.getD 129 undef, t.getD 130 undef, t.getD 131 undef, t.getD 132 undef, t.getD 133 undef, t.getD 134 undef, t.getD 135 undef, t.getD 136 undef, t.getD 137 undef, t.getD 138 undef, t.getD 139 undef, t.getD 140 undef, t.getD 141 undef, t.getD 142 undef, t.getD 143 undef, t.getD 144 undef, t.getD 145 undef, t.getD 146 undef, t.getD 147 undef, t.getD 148 undef, t.getD 149 undef, t.getD 150 undef, t.getD 151 undef, t.getD 152 undef, t.getD 153 undef, t.getD 154 undef, t.getD 155 undef, t.getD 156 undef, t.getD 157 undef, t.getD 158 undef, t.getD 159 undef, t.getD 160 undef, t.getD 161 undef, t.getD 162 undef, t.getD 163 undef, t.getD 164 undef, t.getD 165 undef, t.getD 166 undef, t.getD 167 undef, t.getD 168 undef, t.getD 169 undef, t.getD 170 undef, t.getD 171 undef, t.getD 172 undef, t.getD 173 undef, t.getD 174 undef, t.getD 175 undef, t.getD 176 undef, t.getD 177 undef, t.getD 178 undef, t.getD 179 undef, t.getD 180 undef, t.getD 181 undef, t.getD 182 undef, t.getD 183 undef, t.getD 184 undef, t.getD 185 undef, t.getD 186 undef, t.getD 187 undef, t.getD 188 undef, t.getD 189 undef, t.getD 190 undef, t.getD 191 undef, t.getD 192 undef, t.getD 193 undef, t.getD 194 undef, t.getD 195 undef, t.getD 196 undef] → ∀ W, Below W0.heap.size W0 W → (∃ (t' : Array Value) (c : Bool) (j : Nat), t' = #[t'.getD 0 undef, .int .i64 (k : Int), .string key, .int .i64 q, .pointer (some ⟨B, 0, none⟩), t'.getD 5 undef, t'.getD 6 undef, t'.getD 7 undef, .bool false, vl, .bool is, t'.getD 11 undef, .slice (some ⟨b, o, none⟩) qs.length cp, t'.getD 13 undef, vp, t'.getD 15 undef, .bool c, .int .i64 (j : Int), t'.getD 18 undef, t'.getD 19 undef, t'.getD 20 undef, t'.getD 21 undef, t'.getD 22 undef, t'.getD 23 undef, t'.getD 24 undef, t'.getD 25 undef, t'.getD 26 undef, t'.getD 27 undef, t'.getD 28 undef, t'.getD 29 undef, t'.getD 30 undef, t'.getD 31 undef, t'.getD 32 undef, t'.getD 33 undef, t'.getD 34 undef, t'.getD 35 undef, t'.getD 36 undef, t'.getD 37 undef, t'.getD 38 undef, t'.getD 39 undef, t'.getD 40 undef, t'.getD 41 undef, t'.getD 42 undef, t'.getD 43 undef, t'.getD 44 undef, t'.getD 45 undef, t'.getD 46 undef, t'.getD 47 undef, t'.getD 48 undef, t'.getD 49 undef, t'.getD 50 undef, t'.getD 51 undef, t'.getD 52 undef, t'.getD 53 undef, t'.getD 54 undef, t'.getD 55 undef, t'.getD 56 undef, t'.getD 57 undef, t'.getD 58 undef, t'.getD 59 undef, t'.getD 60 undef, t'.getD 61 undef, t'.getD 62 undef, t'.getD 63 undef, t'.getD 64 undef, t'.getD 65 undef, t'.getD 66 undef, t'.getD 67 undef, t'.getD 68 undef, t'.getD 69 undef, t'.getD 70 undef, t'.getD 71 undef, t'.getD 72 undef, t'.getD 73 undef, t'.getD 74 undef, t'.getD 75 undef, t'.getD 76 undef, t'.getD 77 undef, t'.getD 78 undef, t'.getD 79 undef, t'.getD 80 undef, t'.getD 81 undef, t'.getD 82 undef, t'.getD 83 undef, t'.getD 84 undef, t'.getD 85 undef, t'.getD 86 undef, t'.getD 87 undef, t'.getD 88 undef, t'.getD 89 undef, t'.getD 90 undef, t'.getD 91 undef, t'.getD 92 undef, t'.getD 93 undef, t'.getD 94 undef, t'.getD 95 undef, t'.getD 96 undef, t'.getD 97 undef, t'.getD 98 undef, t'.getD 99 undef, t'.getD 100 undef, t'.getD 101 undef, t'.getD 102 undef, t'.getD 103 undef, t'.getD 104 undef, t'.getD 105 undef, t'.getD 106 undef, t'.getD 107 undef, t'.getD 108 undef, t'.getD 109 undef, t'.getD 110 undef, t'.getD 111 undef, t'.getD 112 undef, t'.getD 113 undef, t'.getD 114 undef, t'.getD 115 undef, t'.getD 116 undef, t'.getD 117 undef, t'.getD 118 undef, t'.getD 119 undef, t'.getD 120 undef, t'.getD 121 undef, t'.getD 122 undef, t'.getD 123 undef, t'.getD 124 undef, t'.getD 125 undef, t'.getD 126 undef, t'.getD 127 undef, t'.getD 128 undef, t'.getD 129 undef, t'.getD 130 undef, t'.getD 131 undef, t'.getD 132 undef, t'.getD 133 undef, t'.getD 134 undef, t'.getD 135 undef, t'.getD 136 undef, t'.getD 137 undef, t'.getD 138 undef, t'.getD 139 undef, t'.getD 140 undef, t'.getD 141 undef, t'.getD 142 undef, t'.getD 143 undef, t'.getD 144 undef, t'.getD 145 undef, t'.getD 146 undef, t'.getD 147 undef, t'.getD 148 undef, t'.getD 149 undef, t'.getD 150 undef, t'.getD 151 undef, t'.getD 152 undef, t'.getD 153 undef, t'.getD 154 undef, t'.getD 155 undef, t'.getD 156 undef, t'.getD 157 undef, t'.getD 158 undef, t'.getD 159 undef, t'.getD 160 undef, t'.getD 161 undef, t'.getD 162 undef, t'.getD 163 undef, t'.getD 164 undef, t'.getD 165 undef, t'.getD 166 undef, t'.getD 167 undef, t'.getD 168 undef, t'.getD 169 undef, t'.getD 170 undef, t'.getD 171 undef, t'.getD 172 undef, t'.getD 173 undef, t'.getD 174 undef, t'.getD 175 undef, t'.getD 176 undef, t'.getD 177 undef, t'.getD 178 undef, t'.getD 179 undef, t'.getD 180 undef, t'.getD 181 undef, t'.getD 182 undef, t'.getD 183 undef, t'.getD 184 undef, t'.getD 185 undef, t'.getD 186 undef, t'.getD 187 undef, t'.getD 188 undef, t'.getD 189 undef, t'.getD 190 undef, t'.getD 191 undef, t'.getD 192 undef, t'.getD 193 undef, t'.getD 194 undef, t'.getD 195 undef, t'.getD 196 undef] ∧ j ≤ qs.length ∧ c = decide (q ∈ qs.take j) ∧ Below W0.heap.size W0 W ∧ (⟨t, []⟩ : Act) = ⟨t', []⟩)) :=
      Lib.hid fun c' hc' t j' hj' ht W hW => ⟨t, c', j', ht, by omega, by rw [hj', hc']; exact HST.out.symm, hW, rfl⟩
    by_cases h0 : 0 < j
    · obtain ⟨z, mz, hz⟩ := HAS.out h0
      have h0' : (0 : Int) < (j : Int) := by omega
      have w1 : IntKind.i64.wrap ((j : Int) - 1) = (j : Int) - 1 := IntWalk.i64_in _ (by omega)
      have w2 : (0 : Int) ≤ (j : Int) - 1 := by omega
      have w3 : ((j : Int) - 1).toNat = j - 1 := by omega
      have w4 : (j - 1 : Nat) < qs.length := by omega
      have hzd : decide (y ≤ z) = false := by simp; omega
      clear HAS
      cases c
      · by_cases hy : y = q
        · have hyb : (y == q) = true := by simp [hy]
          have HY := Lib.hid hy
          clear hy
          go_wp2
          go_quiet (fail)
          all_goals go_wp2
          all_goals exact ⟨HR.out true (by simp [HY.out]) _ _ rfl rfl _ (below_draws HW.out _), by simp [intOf]; omega⟩
        · have hyb : (y == q) = false := by simp [hy]
          have HY := Lib.hid hy
          clear hy
          go_wp2
          go_quiet (fail)
          all_goals go_wp2
          all_goals exact ⟨HR.out false (by simp [HY.out]) _ _ rfl rfl _ (below_draws HW.out _), by simp [intOf]; omega⟩
      · go_wp2
        go_quiet (fail)
        all_goals go_wp2
        all_goals exact ⟨HR.out true rfl _ _ rfl rfl _ (below_draws HW.out _), by simp [intOf]; omega⟩
    · obtain rfl : j = 0 := by omega
      rw [Nat.add_zero] at m0
      have hj3 : (0 : Int) < (qs.length : Int) := by omega
      clear HAS h0 hj2
      cases c
      · by_cases hy : y = q
        · have hyb : (y == q) = true := by simp [hy]
          have HY := Lib.hid hy
          clear hy
          go_wp2
          go_quiet (fail)
          all_goals go_wp2
          all_goals exact ⟨HR.out true (by simp [HY.out]) _ _ rfl rfl _ (below_draws HW.out _), by simp [intOf]; omega⟩
        · have hyb : (y == q) = false := by simp [hy]
          have HY := Lib.hid hy
          clear hy
          go_wp2
          go_quiet (fail)
          all_goals go_wp2
          all_goals exact ⟨HR.out false (by simp [HY.out]) _ _ rfl rfl _ (below_draws HW.out _), by simp [intOf]; omega⟩
      · go_wp2
        go_quiet (fail)
        all_goals go_wp2
        all_goals exact ⟨HR.out true rfl _ _ rfl rfl _ (below_draws HW.out _), by simp [intOf]; omega⟩
  · obtain rfl : j = qs.length := by omega
    have hcc : c = decide (q ∈ qs) := by have := HC.out; rwa [List.take_length] at this
    have HCC := Lib.hid hcc
    clear hcc hsl
    go_wp2
    exact HEND.out _ _ c qs.length HCC.out rfl HW.out

end Go.Proofs.YtapimpmpjighmaaDoor

namespace Go.Proofs.YtapimpmpjighmaaDoor
open Go Go.RowKit
set_option maxRecDepth 100000

def rt3_inv (B : Nat) (key : ByteArray) (q : Int) (vl vp : Value) (x : Int) (j bb : Nat) (ps : List Int) (W0 : World) (a : Act) (wr : World) : Prop :=
  ∃ (t : Array Value) (c : Bool) (i : Nat), t = #[t.getD 0 undef, t.getD 1 undef, .string key, .int .i64 q, .pointer (some ⟨B, 0, none⟩), t.getD 5 undef, t.getD 6 undef, t.getD 7 undef, .bool false, vl, t.getD 10 undef, t.getD 11 undef, t.getD 12 undef, t.getD 13 undef, vp, t.getD 15 undef, t.getD 16 undef, t.getD 17 undef, .int .i64 x, .int .i64 (j : Int), .pointer (some ⟨bb, 0, none⟩), .bool true, .int .i64 0, .bool c, .int .i64 (i : Int), t.getD 25 undef, t.getD 26 undef, t.getD 27 undef, t.getD 28 undef, t.getD 29 undef, t.getD 30 undef, t.getD 31 undef, t.getD 32 undef, t.getD 33 undef, t.getD 34 undef, t.getD 35 undef, t.getD 36 undef, t.getD 37 undef, t.getD 38 undef, t.getD 39 undef, t.getD 40 undef, t.getD 41 undef, t.getD 42 undef, t.getD 43 undef, t.getD 44 undef, t.getD 45 undef, t.getD 46 undef, t.getD 47 undef, t.getD 48 undef, t.getD 49 undef, t.getD 50 undef, t.getD 51 undef, t.getD 52 undef, t.getD 53 undef, t.getD 54 undef, t.getD 55 undef, t.getD 56 undef, t.getD 57 undef, t.getD 58 undef, t.getD 59 undef, t.getD 60 undef, t.getD 61 undef, t.getD 62 undef, t.getD 63 undef, t.getD 64 undef, t.getD 65 undef, t.getD 66 undef, t.getD 67 undef, t.getD 68 undef, t.getD 69 undef, t.getD 70 undef, t.getD 71 undef, t.getD 72 undef, t.getD 73 undef, t.getD 74 undef, t.getD 75 undef, t.getD 76 undef, t.getD 77 undef, t.getD 78 undef, t.getD 79 undef, t.getD 80 undef, t.getD 81 undef, t.getD 82 undef, t.getD 83 undef, t.getD 84 undef, t.getD 85 undef, t.getD 86 undef, t.getD 87 undef, t.getD 88 undef, t.getD 89 undef, t.getD 90 undef, t.getD 91 undef, t.getD 92 undef, t.getD 93 undef, t.getD 94 undef, t.getD 95 undef, t.getD 96 undef, t.getD 97 undef, t.getD 98 undef, t.getD 99 undef, t.getD 100 undef, t.getD 101 undef, t.getD 102 undef, t.getD 103 undef, t.getD 104 undef, t.getD 105 undef, t.getD 106 undef, t.getD 107 undef, t.getD 108 undef, t.getD 109 undef, t.getD 110 undef, t.getD 111 undef, t.getD 112 undef, t.getD 113 undef, t.getD 114 undef, t.getD 115 undef, t.getD 116 undef, t.getD 117 undef, t.getD 118 undef, t.getD 119 undef, t.getD 120 undef, t.getD 121 undef, t.getD 122 undef, t.getD 123 undef, t.getD 124 undef, t.getD 125 undef, t.getD 126 undef, t.getD 127 undef, t.getD 128 undef, t.getD 129 undef, t.getD 130 undef, t.getD 131 undef, t.getD 132 undef, t.getD 133 undef, t.getD 134 undef, t.getD 135 undef, t.getD 136 undef, t.getD 137 undef, t.getD 138 undef, t.getD 139 undef, t.getD 140 undef, t.getD 141 undef, t.getD 142 undef, t.getD 143 undef, t.getD 144 undef, t.getD 145 undef, t.getD 146 undef, t.getD 147 undef, t.getD 148 undef, t.getD 149 undef, t.getD 150 undef, t.getD 151 undef, t.getD 152 undef, t.getD 153 undef, t.getD 154 undef, t.getD 155 undef, t.getD 156 undef, t.getD 157 undef, t.getD 158 undef, t.getD 159 undef, t.getD 160 undef, t.getD 161 undef, t.getD 162 undef, t.getD 163 undef, t.getD 164 undef, t.getD 165 undef, t.getD 166 undef, t.getD 167 undef, t.getD 168 undef, t.getD 169 undef, t.getD 170 undef, t.getD 171 undef, t.getD 172 undef, t.getD 173 undef, t.getD 174 undef, t.getD 175 undef, t.getD 176 undef, t.getD 177 undef, t.getD 178 undef, t.getD 179 undef, t.getD 180 undef, t.getD 181 undef, t.getD 182 undef, t.getD 183 undef, t.getD 184 undef, t.getD 185 undef, t.getD 186 undef, t.getD 187 undef, t.getD 188 undef, t.getD 189 undef, t.getD 190 undef, t.getD 191 undef, t.getD 192 undef, t.getD 193 undef, t.getD 194 undef, t.getD 195 undef, t.getD 196 undef] ∧ i ≤ ps.length ∧ c = decide (x ∈ ps.take i) ∧ Below W0.heap.size W0 wr ∧ a = ⟨t, []⟩
set_option maxHeartbeats 4000000 in
theorem rt_loop3 (B : Nat) (key : ByteArray) (q : Int) (vl vp : Value) (x : Int) (j bb : Nat) (ps : List Int) (W0 : World) (hp : IntsIn W0 vp ps) (Q0 : Exit → Act → World → Prop)
    (hend : ∀ (t : Array Value) (W : World) (c : Bool) (i : Nat), c = decide (x ∈ ps) → t = #[t.getD 0 undef, t.getD 1 undef, .string key, .int .i64 q, .pointer (some ⟨B, 0, none⟩), t.getD 5 undef, t.getD 6 undef, t.getD 7 undef, .bool false, vl, t.getD 10 undef, t.getD 11 undef, t.getD 12 undef, t.getD 13 undef, vp, t.getD 15 undef, t.getD 16 undef, t.getD 17 undef, .int .i64 x, .int .i64 (j : Int), .pointer (some ⟨bb, 0, none⟩), .bool true, .int .i64 0, .bool c, .int .i64 (i : Int), t.getD 25 undef, t.getD 26 undef, t.getD 27 undef, t.getD 28 undef, t.getD 29 undef, t.getD 30 undef, t.getD 31 undef, t.getD 32 undef, t.getD 33 undef, t.getD 34 undef, t.getD 35 undef, t.getD 36 undef, t.getD 37 undef, t.getD 38 undef, t.getD 39 undef, t.getD 40 undef, t.getD 41 undef, t.getD 42 undef, t.getD 43 undef, t.getD 44 undef, t.getD 45 undef, t.getD 46 undef, t.getD 47 undef, t.getD 48 undef, t.getD 49 undef, t.getD 50 undef, t.getD 51 undef, t.getD 52 undef, t.getD 53 undef, t.getD 54 undef, t.getD 55 undef, t.getD 56 undef, t.getD 57 undef, t.getD 58 undef, t.getD 59 undef, t.getD 60 undef, t.getD 61 undef, t.getD 62 undef, t.getD 63 undef, t.getD 64 undef, t.getD 65 undef, t.getD 66 undef, t.getD 67 undef, t.getD 68 undef, t.getD 69 undef, t.getD 70 undef, t.getD 71 undef, t.getD 72 undef, t.getD 73 undef, t.getD 74 undef, t.getD 75 undef, t.getD 76 undef, t.getD 77 undef, t.getD 78 undef, t.getD 79 undef, t.getD 80 undef, t.getD 81 undef, t.getD 82 undef, t.getD 83 undef, t.getD 84 undef, t.getD 85 undef, t.getD 86 undef, t.getD 87 undef, t.getD 88 undef, t.getD 89 undef, t.getD 90 undef, t.getD 91 undef, t.getD 92 undef, t.getD 93 undef, t.getD 94 undef, t.getD 95 undef, t.getD 96 undef, t.getD 97 undef, t.getD 98 undef, t.getD 99 undef, t.getD 100 undef, t.getD 101 undef, t.getD 102 undef, t.getD 103 undef, t.getD 104 undef, t.getD 105 undef, t.getD 106 undef, t.getD 107 undef, t.getD 108 undef, t.getD 109 undef, t.getD 110 undef, t.getD 111 undef, t.getD 112 undef, t.getD 113 undef, t.getD 114 undef, t.getD 115 undef, t.getD 116 undef, t.getD 117 undef, t.getD 118 undef, t.getD 119 undef, t.getD 120 undef, t.getD 121 undef, t.getD 122 undef, t.getD 123 undef, t.getD 124 undef, t.getD 125 undef, t.getD 126 undef, t.getD 127 undef, t.getD 128 undef, t.getD 129 undef, t.getD 130 undef, t.getD 131 undef, t.getD 132 undef, t.getD 133 undef, t.getD 134 undef, t.getD 135 undef, t.getD 136 undef, t.getD 137 undef, t.getD 138 undef, t.getD 139 undef, t.getD 140 undef, t.getD 141 undef, t.getD 142 undef, t.getD 143 undef, t.getD 144 undef, t.getD 145 undef, t.getD 146 undef, t.getD 147 undef, t.getD 148 undef, t.getD 149 undef, t.getD 150 undef, t.getD 151 undef, t.getD 152 undef, t.getD 153 undef, t.getD 154 undef, t.getD 155 undef, t.getD 156 undef, t.getD 157 undef, t.getD 158 undef, t.getD 159 undef, t.getD 160 undef, t.getD 161 undef, t.getD 162 undef, t.getD 163 undef, t.getD 164 undef, t.getD 165 undef, t.getD 166 undef, t.getD 167 undef, t.getD 168 undef, t.getD 169 undef, t.getD 170 undef, t.getD 171 undef, t.getD 172 undef, t.getD 173 undef, t.getD 174 undef, t.getD 175 undef, t.getD 176 undef, t.getD 177 undef, t.getD 178 undef, t.getD 179 undef, t.getD 180 undef, t.getD 181 undef, t.getD 182 undef, t.getD 183 undef, t.getD 184 undef, t.getD 185 undef, t.getD 186 undef, t.getD 187 undef, t.getD 188 undef, t.getD 189 undef, t.getD 190 undef, t.getD 191 undef, t.getD 192 undef, t.getD 193 undef, t.getD 194 undef, t.getD 195 undef, t.getD 196 undef] → Below W0.heap.size W0 W → Q0 (.exit 4) ⟨t, []⟩ W) (t : Array Value) (c : Bool) (i : Nat) (W : World) (ht : t = #[t.getD 0 undef, t.getD 1 undef, .string key, .int .i64 q, .pointer (some ⟨B, 0, none⟩), t.getD 5 undef, t.getD 6 undef, t.getD 7 undef, .bool false, vl, t.getD 10 undef, t.getD 11 undef, t.getD 12 undef, t.getD 13 undef, vp, t.getD 15 undef, t.getD 16 undef, t.getD 17 undef, .int .i64 x, .int .i64 (j : Int), .pointer (some ⟨bb, 0, none⟩), .bool true, .int .i64 0, .bool c, .int .i64 (i : Int), t.getD 25 undef, t.getD 26 undef, t.getD 27 undef, t.getD 28 undef, t.getD 29 undef, t.getD 30 undef, t.getD 31 undef, t.getD 32 undef, t.getD 33 undef, t.getD 34 undef, t.getD 35 undef, t.getD 36 undef, t.getD 37 undef, t.getD 38 undef, t.getD 39 undef, t.getD 40 undef, t.getD 41 undef, t.getD 42 undef, t.getD 43 undef, t.getD 44 undef, t.getD 45 undef, t.getD 46 undef, t.getD 47 undef, t.getD 48 undef, t.getD 49 undef, t.getD 50 undef, t.getD 51 undef, t.getD 52 undef, t.getD 53 undef, t.getD 54 undef, t.getD 55 undef, t.getD 56 undef, t.getD 57 undef, t.getD 58 undef, t.getD 59 undef, t.getD 60 undef, t.getD 61 undef, t.getD 62 undef, t.getD 63 undef, t.getD 64 undef, t.getD 65 undef, t.getD 66 undef, t.getD 67 undef, t.getD 68 undef, t.getD 69 undef, t.getD 70 undef, t.getD 71 undef, t.getD 72 undef, t.getD 73 undef, t.getD 74 undef, t.getD 75 undef, t.getD 76 undef, t.getD 77 undef, t.getD 78 undef, t.getD 79 undef, t.getD 80 undef, t.getD 81 undef, t.getD 82 undef, t.getD 83 undef, t.getD 84 undef, t.getD 85 undef, t.getD 86 undef, t.getD 87 undef, t.getD 88 undef, t.getD 89 undef, t.getD 90 undef, t.getD 91 undef, t.getD 92 undef, t.getD 93 undef, t.getD 94 undef, t.getD 95 undef, t.getD 96 undef, t.getD 97 undef, t.getD 98 undef, t.getD 99 undef, t.getD 100 undef, t.getD 101 undef, t.getD 102 undef, t.getD 103 undef, t.getD 104 undef, t.getD 105 undef, t.getD 106 undef, t.getD 107 undef, t.getD 108 undef, t.getD 109 undef, t.getD 110 undef, t.getD 111 undef, t.getD 112 undef, t.getD 113 undef, t.getD 114 undef, t.getD 115 undef, t.getD 116 undef, t.getD 117 undef, t.getD 118 undef, t.getD 119 undef, t.getD 120 undef, t.getD 121 undef, t.getD 122 undef, t.getD 123 undef, t.getD 124 undef, t.getD 125 undef, t.getD 126 undef, t.getD 127 undef, t.getD 128 undef, t.getD 129 undef, t.getD 130 undef, t.getD 131 undef, t.getD 132 undef, t.getD 133 undef, t.getD 134 undef, t.getD 135 undef, t.getD 136 undef, t.getD 137 undef, t.getD 138 undef, t.getD 139 undef, t.getD 140 undef, t.getD 141 undef, t.getD 142 undef, t.getD 143 undef, t.getD 144 undef, t.getD 145 undef, t.getD 146 undef, t.getD 147 undef, t.getD 148 undef, t.getD 149 undef, t.getD 150 undef, t.getD 151 undef, t.getD 152 undef, t.getD 153 undef, t.getD 154 undef, t.getD 155 undef, t.getD 156 undef, t.getD 157 undef, t.getD 158 undef, t.getD 159 undef, t.getD 160 undef, t.getD 161 undef, t.getD 162 undef, t.getD 163 undef, t.getD 164 undef, t.getD 165 undef, t.getD 166 undef, t.getD 167 undef, t.getD 168 undef, t.getD 169 undef, t.getD 170 undef, t.getD 171 undef, t.getD 172 undef, t.getD 173 undef, t.getD 174 undef, t.getD 175 undef, t.getD 176 undef, t.getD 177 undef, t.getD 178 undef, t.getD 179 undef, t.getD 180 undef, t.getD 181 undef, t.getD 182 undef, t.getD 183 undef, t.getD 184 undef, t.getD 185 undef, t.getD 186 undef, t.getD 187 undef, t.getD 188 undef, t.getD 189 undef, t.getD 190 undef, t.getD 191 undef, t.getD 192 undef, t.getD 193 undef, t.getD 194 undef, t.getD 195 undef, t.getD 196 undef]) (hi : i ≤ ps.length) (hc : c = decide (x ∈ ps.take i)) (hW : Below W0.heap.size W0 W) :
    (Code.loop rtLoop3).wp Tryd.prog Q0 ⟨t, []⟩ W := by
  refine wp_loop (rt3_inv B key q vl vp x j bb ps W0) (fun a _ => ps.length - (intOf (a.tmps.getD 24 undef)).toNat) ⟨t, c, i, ht, hi, hc, hW, rfl⟩ ?_
  clear ht hi hc hW t c i W
  rintro a' wr ⟨t, c, i, ht, hi, hc, hW, rfl⟩
  obtain ⟨u, rfl⟩ := rt3_open ht
  clear ht
  obtain ⟨a, cp, rfl, hlen, hsl⟩ := hp
  have HC := Lib.hid hc
  have HW := Lib.hid hW
  have HEND := Lib.hid hend
  clear hc hW hend
  conv => arg 2; whnf
  by_cases hlt : i < ps.length
  · obtain ⟨b, o, rfl, hcell⟩ := IntsIn.at_ (c := cp) hsl HW.out hlt
    have m0 := hcell i hlt
    have hst := mem_step hlt x
    rw [← HC.out] at hst
    have HST := Lib.hid hst
    clear hsl hcell hst
    generalize ps[i] = y at *
    have HLT := Lib.hid hlt
    have hj2 : (i : Int) < (ps.length : Int) := by omega
    have HR : Hid (∀ c' : Bool, c' = (c || decide (y = x)) → ∀ t : Array Value, ∀ (i' : Nat), i' = i + 1 → t = #[t.getD 0 undef, t.getD 1 undef, .string key, .int .i64 q, .pointer (some ⟨B, 0, none⟩), t.getD 5 undef, t.getD 6 undef, t.getD 7 undef, .bool false, vl, t.getD 10 undef, t.getD 11 undef, t.getD 12 undef, t.getD 13 undef, .slice (some ⟨b, o, none⟩) ps.length cp, t.getD 15 undef, t.getD 16 undef, t.getD 17 undef, .int .i64 x, .int .i64 (j : Int), .pointer (some ⟨bb, 0, none⟩), .bool true, .int .i64 0, .bool c', .int .i64 (i' : Int), t.getD 25 undef, t.getD 26 undef, t.getD 27 undef, t.getD 28 undef, t.getD 29 undef, t.getD 30 undef, t.getD 31 undef, t.getD 32 undef, t.getD 33 undef, t.getD 34 undef, t.getD 35 undef, t.getD 36 undef, t.getD 37 undef, t.getD 38 undef, t.getD 39 undef, t.getD 40 undef, t.getD 41 undef, t.getD 42 undef, t.getD 43 undef, t.getD 44 undef, t.getD 45 undef, t.getD 46 undef, t.getD 47 undef, t.getD 48 undef, t.getD 49 undef, t.getD 50 undef, t.getD 51 undef, t.getD 52 undef, t.getD 53 undef, t.getD 54 undef, t.getD 55 undef, t.getD 56 undef, t.getD 57 undef, t.getD 58 undef, t.getD 59 undef, t.getD 60 undef, t.getD 61 undef, t.getD 62 undef, t.getD 63 undef, t.getD 64 undef, t.getD 65 undef, t.getD 66 undef, t.getD 67 undef, t.getD 68 undef, t.getD 69 undef, t.getD 70 undef, t.getD 71 undef, t.getD 72 undef, t.getD 73 undef, t.getD 74 undef, t.getD 75 undef, t.getD 76 undef, t.getD 77 undef, t.getD 78 undef, t.getD 79 undef, t.getD 80 undef, t.getD 81 undef, t.getD 82 undef, t.getD 83 undef, t.getD 84 undef, t.getD 85 undef, t.getD 86 undef, t.getD 87 undef, t.getD 88 undef, t.getD 89 undef, t.getD 90 undef, t.getD 91 undef, t.getD 92 undef, t.getD 93 undef, t.getD 94 undef, t.getD 95 undef, t.getD 96 undef, t.getD 97 undef, t.getD 98 undef, t.getD 99 undef, t.getD 100 undef, t.getD 101 undef, t.getD 102 undef, t.getD 103 undef, t.getD 104 undef, t.getD 105 undef, t.getD 106 undef, t.getD 107 undef, t.getD 108 undef, t.getD 109 undef, t.getD 110 undef, t.getD 111 undef, t.getD 112 undef, t.getD 113 undef, t.getD 114 undef, t.getD 115 undef, t.getD 116 undef, t.getD 117 undef, t.getD 118 undef, t.getD 119 undef, t.getD 120 undef, t.getD 121 undef, t.getD 122 undef, t.getD 123 undef, t.getD 124 undef, t.getD 125 undef, t.getD 126 undef, t.getD 127 undef, t.getD 128 undef, t.getD 129 undef, t.getD 130 undef, t.getD 131 undef, t.getD 132 undef, t.getD 133 undef, t.getD 134 undef, t.getD 135 undef, t.getD 136 undef, t.getD 137 undef, t.getD 138 undef, t.getD 139 undef, t.getD 140 undef, t.getD 141 undef, t.getD 142 undef, t.getD 143 undef, t.getD 144 undef, t.getD 145 undef, t.getD 146 undef, t.getD 147 undef, t.getD 148 undef, t.getD 149 undef, t.getD 150 undef, t.getD 151 undef, t.getD 152 undef, t.getD 153 undef, t.getD 154 undef, t.getD 155 undef, t.getD 156 undef, t.getD 157 undef, t.getD 158 undef, t.getD 159 undef, t.getD 160 undef, t.getD 161 undef, t.getD 162 undef, t.getD 163 undef, t.getD 164 undef, t.getD 165 undef, t.getD 166 undef, t.getD 167 undef, t.getD 168 undef, t.getD 169 undef, t.getD 170 undef, t.getD 171 undef, t.getD 172 undef, t.getD 173 undef, t.getD 174 undef, t.getD 175 undef, t.getD 176 undef, t.getD 177 undef, t.getD 178 undef, t.getD 179 undef, t.getD 180 undef, t.getD 181 undef, t.getD 182 undef, t.getD 183 undef, t.getD 184 undef, t.getD 185 undef, t.getD 186 undef, t.getD 187 undef, t.getD 188 undef, t.getD 189 undef, t.getD 190 undef, t.getD 191 undef, t.getD 192 undef, t.getD 193 undef, t.getD 194 undef, t.getD 195 undef, t.getD 196 undef] → rt3_inv B key q vl (.slice (some ⟨b, o, none⟩) ps.length cp) x j bb ps W0 ⟨t, []⟩ wr) :=
      Lib.hid fun c' hc' t i' hi' ht => ⟨t, c', i', ht, by omega, by rw [hi', hc']; exact HST.out.symm, HW.out, rfl⟩
    cases c
    · by_cases hy : y = x
      · have hyb : (y == x) = true := by simp [hy]
        have HY := Lib.hid hy
        clear hy
        go_wp2
        exact ⟨HR.out true (by simp [HY.out]) _ _ rfl rfl, by simp [intOf]; omega⟩
      · have hyb : (y == x) = false := by simp [hy]
        have HY := Lib.hid hy
        clear hy
        go_wp2
        exact ⟨HR.out false (by simp [HY.out]) _ _ rfl rfl, by simp [intOf]; omega⟩
    · go_wp2
      exact ⟨HR.out true rfl _ _ rfl rfl, by simp [intOf]; omega⟩
  · obtain rfl : i = ps.length := by omega
    have hcc : c = decide (x ∈ ps) := by have := HC.out; rwa [List.take_length] at this
    have HCC := Lib.hid hcc
    clear hcc hsl
    go_wp2
    exact HEND.out _ _ c ps.length HCC.out rfl HW.out

theorem Goes.ne {p : PlanD} {key : ByteArray} {q x : Int} {l : List Int} : Goes p key q x l → l ≠ []
  | .last _ _ _ _ => by simp
  | .more _ _ _ _ => by simp
/-- Where the way stands when so many of its binds were gone. -/
def RtAt (p : PlanD) (key : ByteArray) (q : Int) (k : Nat) (l : List Int) (j : Nat) (x : Int) : Prop := (j < l.length ∧ Goes p key q x (l.drop j) ∧ Reach p key k x) ∨ (j = l.length ∧ x = q)
theorem RtAt.step {p : PlanD} {key : ByteArray} {q : Int} {k : Nat} {l : List Int} {j : Nat} {x : Int} (h : RtAt p key q k l j x) (hj : j < l.length) :
    ∃ (i : Nat) (b : BindD), l[j] = (i : Int) ∧ p.binds[i]? = some b ∧ byP p b key = true ∧ b.src = x ∧ b.toPost = !decide (j = l.length - 1) ∧ RtAt p key q k l (j + 1) b.to ∧ Reach p key k x := by
  rcases h with ⟨_, hg, hr⟩ | ⟨h, _⟩
  · rw [List.drop_eq_getElem_cons hj] at hg
    generalize hy : l[j] = y at *
    generalize hd : l.drop (j + 1) = d at *
    cases hg with
    | @last i b h1 h2 h3 h4 =>
      have e := hd.symm
      refine ⟨i, b, rfl, h1, h2, rfl, ?_, .inr ⟨?_, h4⟩, hr⟩
      · have : (l.drop (j + 1)).length = 0 := by rw [hd]; rfl
        rw [List.length_drop] at this
        rw [h3, decide_eq_true (by omega)]; rfl
      · have : (l.drop (j + 1)).length = 0 := by rw [hd]; rfl
        rw [List.length_drop] at this
        omega
    | @more i b l' h1 h2 h3 h4 =>
      have hl : j + 1 < l.length := by
        rcases Nat.lt_or_ge (j + 1) l.length with h | h
        · exact h
        · rw [List.drop_eq_nil_of_le h] at hd
          exact absurd hd.symm h4.ne
      exact ⟨i, b, rfl, h1, h2, rfl, by rw [h3, decide_eq_false (by omega)]; rfl, .inl ⟨hl, by rw [hd]; exact h4, .step hr (List.mem_of_getElem? h1) h3 h2⟩, hr⟩
  · omega
/-- The plan, where it lies, in all that comes. -/
structure RtIn (w : World) (p : PlanD) (a1 a2 a3 : Option Addr) (c1 c2 c3 : Nat) (W : World) : Prop where
  cells : W.cell? ⟨w.heap.size, 0, none⟩ = some (.slice a1 p.posts.length c1) ∧ W.cell? ⟨w.heap.size, 1, none⟩ = some (.slice a2 p.queues.length c2) ∧ W.cell? ⟨w.heap.size, 2, none⟩ = some (.slice a3 p.binds.length c3)
  plan : PlanAt W 0 W.heap.size a1 a2 a3 p
  env : Env W
theorem bind_cells2 {W : World} {lo hi : Nat} {a : Option Addr} {bs : List BindD} (h : Sl W lo hi a (bs.flatMap vBind)) {i : Nat} {b : BindD} (hb : bs[i]? = some b) : ∃ g o, a = some ⟨g, o, none⟩ ∧ W.cell? ⟨g, o + i * 4, none⟩ = some (.int .i64 b.src) ∧ W.cell? ⟨g, o + i * 4 + 1, none⟩ = some (.bool b.toPost) ∧ W.cell? ⟨g, o + i * 4 + 2, none⟩ = some (.int .i64 b.to) ∧ W.cell? ⟨g, o + i * 4 + 3, none⟩ = some (.string b.pattern) := by
  have hi := (List.getElem?_eq_some_iff.1 hb).1
  obtain ⟨g, o, rfl, _, _, hx⟩ := sl_elem vBind_len (by decide) h hi
  rw [(List.getElem?_eq_some_iff.1 hb).2] at hx
  exact ⟨g, o, rfl, hx 0 _ rfl, hx 1 _ rfl, hx 2 _ rfl, hx 3 _ rfl⟩

theorem RtIn.since {w W0 W : World} {p : PlanD} {a1 a2 a3 : Option Addr} {c1 c2 c3 : Nat} (h : RtIn w p a1 a2 a3 c1 c2 c3 W0) (hw : w.heap.size < W0.heap.size) (hb : Below W0.heap.size W0 W) : RtIn w p a1 a2 a3 c1 c2 c3 W :=
  ⟨⟨(hb.cell (p := ⟨w.heap.size, 0, none⟩) hw).trans h.cells.1, (hb.cell (p := ⟨w.heap.size, 1, none⟩) hw).trans h.cells.2.1, (hb.cell (p := ⟨w.heap.size, 2, none⟩) hw).trans h.cells.2.2⟩, (h.plan.below hb (Nat.le_refl _)).wider (Nat.le_refl _) hb.size, below_env hb h.env⟩end Go.Proofs.YtapimpmpjighmaaDoor

namespace Go.Proofs.YtapimpmpjighmaaDoor
open Go Go.RowKit
set_option maxRecDepth 100000

theorem kb_allocR {Wr W : World} {D : Prop} (h : D ∧ Below Wr.heap.size Wr W) (o : Obj) : Below Wr.heap.size Wr (W.alloc o) := h.2.alloc h.2.size o
theorem IntsIn.since {W0 W : World} {v : Value} {xs : List Int} (h : IntsIn W0 v xs) (hb : Below W0.heap.size W0 W) : IntsIn W v xs := by
  obtain ⟨a, c, e, h1, h2⟩ := h
  exact ⟨a, c, e, h1, (h2.below hb (Nat.le_refl _)).wider (Nat.le_refl _) hb.size⟩
def rt2_inv (p : PlanD) (k : Nat) (B : Nat) (key : ByteArray) (q : Int) (vl vp : Value) (ls : List Int) (W0 : World) (a : Act) (wr : World) : Prop :=
  ∃ (t : Array Value) (x : Int) (j : Nat), t = #[t.getD 0 undef, t.getD 1 undef, .string key, .int .i64 q, .pointer (some ⟨B, 0, none⟩), t.getD 5 undef, t.getD 6 undef, t.getD 7 undef, .bool false, vl, t.getD 10 undef, t.getD 11 undef, t.getD 12 undef, t.getD 13 undef, vp, t.getD 15 undef, t.getD 16 undef, t.getD 17 undef, .int .i64 x, .int .i64 (j : Int), t.getD 20 undef, t.getD 21 undef, t.getD 22 undef, t.getD 23 undef, t.getD 24 undef, t.getD 25 undef, t.getD 26 undef, t.getD 27 undef, t.getD 28 undef, t.getD 29 undef, t.getD 30 undef, t.getD 31 undef, t.getD 32 undef, t.getD 33 undef, t.getD 34 undef, t.getD 35 undef, t.getD 36 undef, t.getD 37 undef, t.getD 38 undef, t.getD 39 undef, t.getD 40 undef, t.getD 41 undef, t.getD 42 undef, t.getD 43 undef, t.getD 44 undef, t.getD 45 undef, t.getD 46 undef, t.getD 47 undef, t.getD 48 undef, t.getD 49 undef, t.getD 50 undef, t.getD 51 undef, t.getD 52 undef, t.getD 53 undef, t.getD 54 undef, t.getD 55 undef, t.getD 56 undef, t.getD 57 undef, t.getD 58 undef, t.getD 59 undef, t.getD 60 undef, t.getD 61 undef, t.getD 62 undef, t.getD 63 undef, t.getD 64 undef, t.getD 65 undef, t.getD 66 undef, t.getD 67 undef, t.getD 68 undef, t.getD 69 undef, t.getD 70 undef, t.getD 71 undef, t.getD 72 undef, t.getD 73 undef, t.getD 74 undef, t.getD 75 undef, t.getD 76 undef, t.getD 77 undef, t.getD 78 undef, t.getD 79 undef, t.getD 80 undef, t.getD 81 undef, t.getD 82 undef, t.getD 83 undef, t.getD 84 undef, t.getD 85 undef, t.getD 86 undef, t.getD 87 undef, t.getD 88 undef, t.getD 89 undef, t.getD 90 undef, t.getD 91 undef, t.getD 92 undef, t.getD 93 undef, t.getD 94 undef, t.getD 95 undef, t.getD 96 undef, t.getD 97 undef, t.getD 98 undef, t.getD 99 undef, t.getD 100 undef, t.getD 101 undef, t.getD 102 undef, t.getD 103 undef, t.getD 104 undef, t.getD 105 undef, t.getD 106 undef, t.getD 107 undef, t.getD 108 undef, t.getD 109 undef, t.getD 110 undef, t.getD 111 undef, t.getD 112 undef, t.getD 113 undef, t.getD 114 undef, t.getD 115 undef, t.getD 116 undef, t.getD 117 undef, t.getD 118 undef, t.getD 119 undef, t.getD 120 undef, t.getD 121 undef, t.getD 122 undef, t.getD 123 undef, t.getD 124 undef, t.getD 125 undef, t.getD 126 undef, t.getD 127 undef, t.getD 128 undef, t.getD 129 undef, t.getD 130 undef, t.getD 131 undef, t.getD 132 undef, t.getD 133 undef, t.getD 134 undef, t.getD 135 undef, t.getD 136 undef, t.getD 137 undef, t.getD 138 undef, t.getD 139 undef, t.getD 140 undef, t.getD 141 undef, t.getD 142 undef, t.getD 143 undef, t.getD 144 undef, t.getD 145 undef, t.getD 146 undef, t.getD 147 undef, t.getD 148 undef, t.getD 149 undef, t.getD 150 undef, t.getD 151 undef, t.getD 152 undef, t.getD 153 undef, t.getD 154 undef, t.getD 155 undef, t.getD 156 undef, t.getD 157 undef, t.getD 158 undef, t.getD 159 undef, t.getD 160 undef, t.getD 161 undef, t.getD 162 undef, t.getD 163 undef, t.getD 164 undef, t.getD 165 undef, t.getD 166 undef, t.getD 167 undef, t.getD 168 undef, t.getD 169 undef, t.getD 170 undef, t.getD 171 undef, t.getD 172 undef, t.getD 173 undef, t.getD 174 undef, t.getD 175 undef, t.getD 176 undef, t.getD 177 undef, t.getD 178 undef, t.getD 179 undef, t.getD 180 undef, t.getD 181 undef, t.getD 182 undef, t.getD 183 undef, t.getD 184 undef, t.getD 185 undef, t.getD 186 undef, t.getD 187 undef, t.getD 188 undef, t.getD 189 undef, t.getD 190 undef, t.getD 191 undef, t.getD 192 undef, t.getD 193 undef, t.getD 194 undef, t.getD 195 undef, t.getD 196 undef] ∧ j ≤ ls.length ∧ RtAt p key q k ls j x ∧ Below W0.heap.size W0 wr ∧ a = ⟨t, []⟩
set_option maxHeartbeats 4000000 in
theorem rt_loop2 (p : PlanD) (hr : PlanRight p) (hs : PlanSmall p) (k : Nat) (hk : k < p.posts.length) (key : ByteArray) (hkey : key.size ≤ 1048576) (hke : splitErr isWord key = 0) (hcp : checkP p = 0) (q : Int) (a1 a2 a3 : Option Addr) (c1 c2 c3 : Nat) (w : World) (vl vp : Value) (ls ps : List Int) (W0 : World)
    (hl : IntsIn W0 vl ls) (hp : IntsIn W0 vp ps) (hps : ∀ x, Reach p key k x → x ∈ ps) (hIn : RtIn w p a1 a2 a3 c1 c2 c3 W0) (hw : w.heap.size < W0.heap.size) (Q0 : Exit → Act → World → Prop)
    (hend : ∀ (t : Array Value) (W : World) (x : Int) (j : Nat), x = q → t = #[t.getD 0 undef, t.getD 1 undef, .string key, .int .i64 q, .pointer (some ⟨w.heap.size, 0, none⟩), t.getD 5 undef, t.getD 6 undef, t.getD 7 undef, .bool false, vl, t.getD 10 undef, t.getD 11 undef, t.getD 12 undef, t.getD 13 undef, vp, t.getD 15 undef, t.getD 16 undef, t.getD 17 undef, .int .i64 x, .int .i64 (j : Int), t.getD 20 undef, t.getD 21 undef, t.getD 22 undef, t.getD 23 undef, t.getD 24 undef, t.getD 25 undef, t.getD 26 undef, t.getD 27 undef, t.getD 28 undef, t.getD 29 undef, t.getD 30 undef, t.getD 31 undef, t.getD 32 undef, t.getD 33 undef, t.getD 34 undef, t.getD 35 undef, t.getD 36 undef, t.getD 37 undef, t.getD 38 undef, t.getD 39 undef, t.getD 40 undef, t.getD 41 undef, t.getD 42 undef, t.getD 43 undef, t.getD 44 undef, t.getD 45 undef, t.getD 46 undef, t.getD 47 undef, t.getD 48 undef, t.getD 49 undef, t.getD 50 undef, t.getD 51 undef, t.getD 52 undef, t.getD 53 undef, t.getD 54 undef, t.getD 55 undef, t.getD 56 undef, t.getD 57 undef, t.getD 58 undef, t.getD 59 undef, t.getD 60 undef, t.getD 61 undef, t.getD 62 undef, t.getD 63 undef, t.getD 64 undef, t.getD 65 undef, t.getD 66 undef, t.getD 67 undef, t.getD 68 undef, t.getD 69 undef, t.getD 70 undef, t.getD 71 undef, t.getD 72 undef, t.getD 73 undef, t.getD 74 undef, t.getD 75 undef, t.getD 76 undef, t.getD 77 undef, t.getD 78 undef, t.getD 79 undef, t.getD 80 undef, t.getD 81 undef, t.getD 82 undef, t.getD 83 undef, t.getD 84 undef, t.getD 85 undef, t.getD 86 undef, t.getD 87 undef, t.getD 88 undef, t.getD 89 undef, t.getD 90 undef, t.getD 91 undef, t.getD 92 undef, t.getD 93 undef, t.getD 94 undef, t.getD 95 undef, t.getD 96 undef, t.getD 97 undef, t.getD 98 undef, t.getD 99 undef, t.getD 100 undef, t.getD 101 undef, t.getD 102 undef, t.getD 103 undef, t.getD 104 undef, t.getD 105 undef, t.getD 106 undef, t.getD 107 undef, t.getD 108 undef, t.getD 109 undef, t.getD 110 undef, t.getD 111 undef, t.getD 112 undef, t.getD 113 undef, t.getD 114 undef, t.getD 115 undef, t.getD 116 undef, t.getD 117 undef, t.getD 118 undef, t.getD 119 undef, t.getD 120 undef, t.getD 121 undef, t.getD 122 undef, t.getD 123 undef, t.getD 124 undef, t.getD 125 undef, t.getD 126 undef, t.getD 127 undef, t.getD 128 undef, t.getD 129 undef, t.getD 130 undef, t.getD 131 undef, t.getD 132 undef, t.getD 133 undef, t.getD 134 undef, t.getD 135 undef, t.getD 136 undef, t.getD 137 undef, t.getD 138 undef, t.getD 139 undef, t.getD 140 undef, t.getD 141 undef, t.getD 142 undef, t.getD 143 undef, t.getD 144 undef, t.getD 145 undef, t.getD 146 undef, t.getD 147 undef, t.getD 148 undef, t.getD 149 undef, t.getD 150 undef, t.getD 151 undef, t.getD 152 undef, t.getD 153 undef, t.getD 154 undef, t.getD 155 undef, t.getD 156 undef, t.getD 157 undef, t.getD 158 undef, t.getD 159 undef, t.getD 160 undef, t.getD 161 undef, t.getD 162 undef, t.getD 163 undef, t.getD 164 undef, t.getD 165 undef, t.getD 166 undef, t.getD 167 undef, t.getD 168 undef, t.getD 169 undef, t.getD 170 undef, t.getD 171 undef, t.getD 172 undef, t.getD 173 undef, t.getD 174 undef, t.getD 175 undef, t.getD 176 undef, t.getD 177 undef, t.getD 178 undef, t.getD 179 undef, t.getD 180 undef, t.getD 181 undef, t.getD 182 undef, t.getD 183 undef, t.getD 184 undef, t.getD 185 undef, t.getD 186 undef, t.getD 187 undef, t.getD 188 undef, t.getD 189 undef, t.getD 190 undef, t.getD 191 undef, t.getD 192 undef, t.getD 193 undef, t.getD 194 undef, t.getD 195 undef, t.getD 196 undef] → Below W0.heap.size W0 W → Q0 (.exit 2) ⟨t, []⟩ W) (t : Array Value) (x : Int) (j : Nat) (W : World) (ht : t = #[t.getD 0 undef, t.getD 1 undef, .string key, .int .i64 q, .pointer (some ⟨w.heap.size, 0, none⟩), t.getD 5 undef, t.getD 6 undef, t.getD 7 undef, .bool false, vl, t.getD 10 undef, t.getD 11 undef, t.getD 12 undef, t.getD 13 undef, vp, t.getD 15 undef, t.getD 16 undef, t.getD 17 undef, .int .i64 x, .int .i64 (j : Int), t.getD 20 undef, t.getD 21 undef, t.getD 22 undef, t.getD 23 undef, t.getD 24 undef, t.getD 25 undef, t.getD 26 undef, t.getD 27 undef, t.getD 28 undef, t.getD 29 undef, t.getD 30 undef, t.getD 31 undef, t.getD 32 undef, t.getD 33 undef, t.getD 34 undef, t.getD 35 undef, t.getD 36 undef, t.getD 37 undef, t.getD 38 undef, t.getD 39 undef, t.getD 40 undef, t.getD 41 undef, t.getD 42 undef, t.getD 43 undef, t.getD 44 undef, t.getD 45 undef, t.getD 46 undef, t.getD 47 undef, t.getD 48 undef, t.getD 49 undef, t.getD 50 undef, t.getD 51 undef, t.getD 52 undef, t.getD 53 undef, t.getD 54 undef, t.getD 55 undef, t.getD 56 undef, t.getD 57 undef, t.getD 58 undef, t.getD 59 undef, t.getD 60 undef, t.getD 61 undef, t.getD 62 undef, t.getD 63 undef, t.getD 64 undef, t.getD 65 undef, t.getD 66 undef, t.getD 67 undef, t.getD 68 undef, t.getD 69 undef, t.getD 70 undef, t.getD 71 undef, t.getD 72 undef, t.getD 73 undef, t.getD 74 undef, t.getD 75 undef, t.getD 76 undef, t.getD 77 undef, t.getD 78 undef, t.getD 79 undef, t.getD 80 undef, t.getD 81 undef, t.getD 82 undef, t.getD 83 undef, t.getD 84 undef, t.getD 85 undef, t.getD 86 undef, t.getD 87 undef, t.getD 88 undef, t.getD 89 undef, t.getD 90 undef, t.getD 91 undef, t.getD 92 undef, t.getD 93 undef, t.getD 94 undef, t.getD 95 undef, t.getD 96 undef, t.getD 97 undef, t.getD 98 undef, t.getD 99 undef, t.getD 100 undef, t.getD 101 undef, t.getD 102 undef, t.getD 103 undef, t.getD 104 undef, t.getD 105 undef, t.getD 106 undef, t.getD 107 undef, t.getD 108 undef, t.getD 109 undef, t.getD 110 undef, t.getD 111 undef, t.getD 112 undef, t.getD 113 undef, t.getD 114 undef, t.getD 115 undef, t.getD 116 undef, t.getD 117 undef, t.getD 118 undef, t.getD 119 undef, t.getD 120 undef, t.getD 121 undef, t.getD 122 undef, t.getD 123 undef, t.getD 124 undef, t.getD 125 undef, t.getD 126 undef, t.getD 127 undef, t.getD 128 undef, t.getD 129 undef, t.getD 130 undef, t.getD 131 undef, t.getD 132 undef, t.getD 133 undef, t.getD 134 undef, t.getD 135 undef, t.getD 136 undef, t.getD 137 undef, t.getD 138 undef, t.getD 139 undef, t.getD 140 undef, t.getD 141 undef, t.getD 142 undef, t.getD 143 undef, t.getD 144 undef, t.getD 145 undef, t.getD 146 undef, t.getD 147 undef, t.getD 148 undef, t.getD 149 undef, t.getD 150 undef, t.getD 151 undef, t.getD 152 undef, t.getD 153 undef, t.getD 154 undef, t.getD 155 undef, t.getD 156 undef, t.getD 157 undef, t.getD 158 undef, t.getD 159 undef, t.getD 160 undef, t.getD 161 undef, t.getD 162 undef, t.getD 163 undef, t.getD 164 undef, t.getD 165 undef, t.getD 166 undef, t.getD 167 undef, t.getD 168 undef, t.getD 169 undef, t.getD 170 undef, t.getD 171 undef, t.getD 172 undef, t.getD 173 undef, t.getD 174 undef, t.getD 175 undef, t.getD 176 undef, t.getD 177 undef, t.getD 178 undef, t.getD 179 undef, t.getD 180 undef, t.getD 181 undef, t.getD 182 undef, t.getD 183 undef, t.getD 184 undef, t.getD 185 undef, t.getD 186 undef, t.getD 187 undef, t.getD 188 undef, t.getD 189 undef, t.getD 190 undef, t.getD 191 undef, t.getD 192 undef, t.getD 193 undef, t.getD 194 undef, t.getD 195 undef, t.getD 196 undef]) (hj : j ≤ ls.length) (hx : RtAt p key q k ls j x) (hW : Below W0.heap.size W0 W) :
    (Code.loop rtLoop2).wp Tryd.prog Q0 ⟨t, []⟩ W := by
  refine wp_loop (rt2_inv p k w.heap.size key q vl vp ls W0) (fun a _ => ls.length - (intOf (a.tmps.getD 19 undef)).toNat) ⟨t, x, j, ht, hj, hx, hW, rfl⟩ ?_
  clear ht hj hx hW t x j W
  rintro a' wr ⟨t, x, j, ht, hj, hx, hW, rfl⟩
  obtain ⟨u, rfl⟩ := rt2_open ht
  clear ht
  obtain ⟨a, cp, rfl, hlen, hsl⟩ := hl
  have HW := Lib.hid hW
  have HEND := Lib.hid hend
  have HP := Lib.hid (And.intro hp hps)
  have HRI := Lib.hid (And.intro hIn hw)
  clear hW hend hp hps hIn hw
  conv => arg 2; whnf
  by_cases hlt : j < ls.length
  · obtain ⟨b, o, rfl, hcell⟩ := IntsIn.at_ (c := cp) hsl HW.out hlt
    have m0 := hcell j hlt
    obtain ⟨i, bd, hli, hbi, hby, hsrc, htp, hnext, hreach⟩ := hx.step hlt
    rw [hli] at m0
    have hIn := HRI.out.1.since HRI.out.2 HW.out
    obtain ⟨g, ob, hga, n0, n1, n2, n3⟩ := bind_cells2 hIn.plan.binds hbi
    subst hga
    have hil := (List.getElem?_eq_some_iff.1 hbi).1
    have hbn := hr.binds
    obtain ⟨b0, b1, b2⟩ := hIn.cells
    have hfe : fitsErr p (i : Int) key = 0 := by
      unfold fitsErr
      rw [if_neg (by rw [hcp]; decide), if_neg (by omega)]
      exact hke
    have hfi : fitsIs p (i : Int) key = true := by
      unfold fitsIs fitsAt
      rw [if_pos hfe, show ((i : Int)).toNat = i by omega, hbi]
      exact hby
    have HF := Lib.hid (And.intro hfe hfi)
    have HN := Lib.hid (And.intro hnext (And.intro hreach hsrc))
    have hilt : (i : Int) < (p.binds.length : Int) := by omega
    have hj2 : (j : Int) < (ls.length : Int) := by omega
    have hib : decide ((p.binds.length : Int) ≤ (i : Int)) = false := by simp; omega
    have HK : Hid (∀ W, Below wr.heap.size wr W → (W.cell? ⟨w.heap.size, 2, none⟩ = some (.slice (some ⟨g, ob, none⟩) p.binds.length c3) ∧ W.cell? ⟨b, o + j, none⟩ = some (.int .i64 (i : Int)) ∧ W.cell? ⟨g, ob + i * 4, none⟩ = some (.int .i64 bd.src) ∧ W.cell? ⟨g, ob + i * 4 + 1, none⟩ = some (.bool bd.toPost) ∧ W.cell? ⟨g, ob + i * 4 + 2, none⟩ = some (.int .i64 bd.to) ∧ W.cell? ⟨g, ob + i * 4 + 3, none⟩ = some (.string bd.pattern)) ∧ Below wr.heap.size wr W) := by
      have e1 := World.block_lt_of_cell? _ _ b2
      have e2 := World.block_lt_of_cell? _ _ m0
      have e3 := World.block_lt_of_cell? _ _ n0
      exact Lib.hid fun W h => ⟨⟨(h.cell (p := ⟨w.heap.size, 2, none⟩) e1).trans b2, (h.cell (p := ⟨b, o + j, none⟩) e2).trans m0, (h.cell (p := ⟨g, ob + i * 4, none⟩) e3).trans n0, (h.cell (p := ⟨g, ob + i * 4 + 1, none⟩) e3).trans n1, (h.cell (p := ⟨g, ob + i * 4 + 2, none⟩) e3).trans n2, (h.cell (p := ⟨g, ob + i * 4 + 3, none⟩) e3).trans n3⟩, h⟩
    have HSL := Lib.hid hsl
    have HT := Lib.hid htp
    have hinn : (0 : Int) ≤ (i : Int) := by omega
    clear hsl hcell hx hli hbi hby hsrc htp hnext hreach hIn hfe hfi hil b0 b1 n0 n1 n2 n3
    go_wp2
    go_quiet (fail)
    go_wp2
    clear m0 b2
    refine region_calm ?_
    refine wp_region_held_drew (S := (fun W => (W.cell? ⟨w.heap.size, 2, none⟩ = some (.slice (some ⟨g, ob, none⟩) p.binds.length c3) ∧ W.cell? ⟨b, o + j, none⟩ = some (.int .i64 (i : Int)) ∧ W.cell? ⟨g, ob + i * 4, none⟩ = some (.int .i64 bd.src) ∧ W.cell? ⟨g, ob + i * 4 + 1, none⟩ = some (.bool bd.toPost) ∧ W.cell? ⟨g, ob + i * 4 + 2, none⟩ = some (.int .i64 bd.to) ∧ W.cell? ⟨g, ob + i * 4 + 3, none⟩ = some (.string bd.pattern)) ∧ Below wr.heap.size wr W)) (by kernel_rfl) (by first | assumption | exact HK.out _ (below_draws (Below.refl _ _) _).drew | exact HK.out _ hb7 | exact HK.out _ ((((hb7.setCell (Nat.le_refl _) _).setCell (Nat.le_refl _) _).setCell (Nat.le_refl _) _).setCell (Nat.le_refl _) _)) (fun hHeld => ?_)
    first | (refine wpAnyH_take (i := 0) (v := ?_) rfl (by kernel_rfl) (by kernel_rfl) (by kernel_rfl) (fun _ _ _ h => h) (Or.inl ⟨by rfl, ?_⟩) (by assumption) ?_; rotate_left; focus (intro w hSw; (try dsimp only at hSw); go_simp; (all_goals with_reducible rfl); done)) | (refine wpAnyH_take (i := 0) rfl (by kernel_rfl) (by kernel_rfl) (by kernel_rfl) (fun _ _ _ h => h) (Or.inr ⟨by rfl, rfl⟩) (by assumption) ?_) | fail "op 0"
    try simp only [Act.put, List.setIfInBounds_toArray, List.set_cons_zero, List.set_cons_succ, List.getElem_toArray, List.getElem_cons_zero]
    first | (refine wpAnyH_take (i := 1) (v := ?_) rfl (by kernel_rfl) (by kernel_rfl) (by kernel_rfl) (fun _ _ _ h => h) (Or.inl ⟨by rfl, ?_⟩) (by assumption) ?_; rotate_left; focus (intro w hSw; (try dsimp only at hSw); go_simp; (all_goals with_reducible rfl); done)) | (refine wpAnyH_take (i := 1) rfl (by kernel_rfl) (by kernel_rfl) (by kernel_rfl) (fun _ _ _ h => h) (Or.inr ⟨by rfl, rfl⟩) (by assumption) ?_) | fail "op 1"
    try simp only [Act.put, List.setIfInBounds_toArray, List.set_cons_zero, List.set_cons_succ, List.getElem_toArray, List.getElem_cons_zero, List.getElem_cons_succ]
    first | (refine wpAnyH_take (i := 2) (v := ?_) rfl (by kernel_rfl) (by kernel_rfl) (by kernel_rfl) (fun _ _ _ h => h) (Or.inl ⟨by rfl, ?_⟩) (by assumption) ?_; rotate_left; focus (intro w hSw; (try dsimp only at hSw); go_simp; (all_goals with_reducible rfl); done)) | (refine wpAnyH_take (i := 2) rfl (by kernel_rfl) (by kernel_rfl) (by kernel_rfl) (fun _ _ _ h => h) (Or.inr ⟨by rfl, rfl⟩) (by assumption) ?_) | fail "op 2"
    try simp only [Act.put, List.setIfInBounds_toArray, List.set_cons_zero, List.set_cons_succ, List.getElem_toArray, List.getElem_cons_zero, List.getElem_cons_succ]
    first | (refine wpAnyH_take (i := 3) (v := ?_) rfl (by kernel_rfl) (by kernel_rfl) (by kernel_rfl) (fun _ _ _ h => h) (Or.inl ⟨by rfl, ?_⟩) (by assumption) ?_; rotate_left; focus (intro w hSw; (try dsimp only at hSw); go_simp; (all_goals with_reducible rfl); done)) | (refine wpAnyH_take (i := 3) rfl (by kernel_rfl) (by kernel_rfl) (by kernel_rfl) (fun _ _ _ h => h) (Or.inr ⟨by rfl, rfl⟩) (by assumption) ?_) | fail "op 3"
    try simp only [Act.put, List.setIfInBounds_toArray, List.set_cons_zero, List.set_cons_succ, List.getElem_toArray, List.getElem_cons_zero, List.getElem_cons_succ]
    first | (refine wpAnyH_take (i := 4) (v := ?_) rfl (by kernel_rfl) (by kernel_rfl) (by kernel_rfl) (fun _ _ _ h => h) (Or.inl ⟨by rfl, ?_⟩) (by assumption) ?_; rotate_left; focus (intro w hSw; (try dsimp only at hSw); go_simp; (all_goals with_reducible rfl); done)) | (refine wpAnyH_take (i := 4) rfl (by kernel_rfl) (by kernel_rfl) (by kernel_rfl) (fun _ _ _ h => h) (Or.inr ⟨by rfl, rfl⟩) (by assumption) ?_) | fail "op 4"
    try simp only [Act.put, List.setIfInBounds_toArray, List.set_cons_zero, List.set_cons_succ, List.getElem_toArray, List.getElem_cons_zero, List.getElem_cons_succ]
    first | (refine wpAnyH_take (i := 5) (v := ?_) rfl (by kernel_rfl) (by kernel_rfl) (by kernel_rfl) (fun _ _ _ h => h) (Or.inl ⟨by rfl, ?_⟩) (by assumption) ?_; rotate_left; focus (intro w hSw; (try dsimp only at hSw); go_simp; (all_goals with_reducible rfl); done)) | (refine wpAnyH_take (i := 5) rfl (by kernel_rfl) (by kernel_rfl) (by kernel_rfl) (fun _ _ _ h => h) (Or.inr ⟨by rfl, rfl⟩) (by assumption) ?_) | fail "op 5"
    try simp only [Act.put, List.setIfInBounds_toArray, List.set_cons_zero, List.set_cons_succ, List.getElem_toArray, List.getElem_cons_zero, List.getElem_cons_succ]
    first | (refine wpAnyH_take (i := 6) (v := ?_) rfl (by kernel_rfl) (by kernel_rfl) (by kernel_rfl) (fun _ _ _ h => h) (Or.inl ⟨by rfl, ?_⟩) (by assumption) ?_; rotate_left; focus (intro w hSw; (try dsimp only at hSw); go_simp; (all_goals with_reducible rfl); done)) | (refine wpAnyH_take (i := 6) rfl (by kernel_rfl) (by kernel_rfl) (by kernel_rfl) (fun _ _ _ h => h) (Or.inr ⟨by rfl, rfl⟩) (by assumption) ?_) | fail "op 6"
    try simp only [Act.put, List.setIfInBounds_toArray, List.set_cons_zero, List.set_cons_succ, List.getElem_toArray, List.getElem_cons_zero, List.getElem_cons_succ]
    first | (refine wpAnyH_take (i := 7) (v := ?_) rfl (by kernel_rfl) (by kernel_rfl) (by kernel_rfl) (fun _ _ _ h => h) (Or.inl ⟨by rfl, ?_⟩) (by assumption) ?_; rotate_left; focus (intro w hSw; (try dsimp only at hSw); go_simp; (all_goals with_reducible rfl); done)) | (refine wpAnyH_take (i := 7) rfl (by kernel_rfl) (by kernel_rfl) (by kernel_rfl) (fun _ _ _ h => h) (Or.inr ⟨by rfl, rfl⟩) (by assumption) ?_) | fail "op 7"
    try simp only [Act.put, List.setIfInBounds_toArray, List.set_cons_zero, List.set_cons_succ, List.getElem_toArray, List.getElem_cons_zero, List.getElem_cons_succ]
    first
      | refine wpAnyH_take (i := 8) rfl (by kernel_rfl) (by kernel_rfl) (by kernel_rfl) (fun _ _ _ h => h) (Or.inr ⟨by rfl, rfl⟩) (by assumption) ?_
      | (refine wpAnyH_ready (rs := [8]) (by kernel_rfl) (by simp) ?_; refine AllReadyH.cons rfl (fun K hK => ?_) AllReadyH.nil; go_simp; (generalize hW7 : World.alloc _ (Obj.cells _ _) = W7; have kz : Bk W7 wr.heap.size 64 _ := (by rw [← hW7]; exact Bk.new_at _ _ _ (by simp)); have hb7 : Below wr.heap.size wr W7 := (by rw [← hW7]; exact kb_allocR (by assumption) _); have z0 := kz.cell 0; have z1 := kz.cell 1; have z2 := kz.cell 2; have z3 := kz.cell 3; have f0 := kz.frozen 0; have f1 := kz.frozen 1; have f2 := kz.frozen 2; have f3 := kz.frozen 3; have zl := kz.lt; simp only [List.getElem?_toArray, List.getElem?_cons_zero, List.getElem?_cons_succ] at z0 z1 z2 z3; clear hW7); refine hK.out _ _ (by first | assumption | exact HK.out _ (below_draws (Below.refl _ _) _).drew | exact HK.out _ hb7 | exact HK.out _ ((((hb7.setCell (Nat.le_refl _) _).setCell (Nat.le_refl _) _).setCell (Nat.le_refl _) _).setCell (Nat.le_refl _) _)) (fun hHeld => ?_); clear hK K)
      | fail "call 8"
    try simp only [Act.put, List.setIfInBounds_toArray, List.set_cons_zero, List.set_cons_succ, List.getElem_toArray, List.getElem_cons_zero, List.getElem_cons_succ]
    (refine wpAnyH_ready (rs := [9]) (by kernel_rfl) (by simp) ?_; refine AllReadyH.cons rfl (fun K hK => ?_) AllReadyH.nil; go_simp; refine hK.out _ _ (by first | assumption | exact HK.out _ (below_draws (Below.refl _ _) _).drew | exact HK.out _ hb7 | exact HK.out _ ((((hb7.setCell (Nat.le_refl _) _).setCell (Nat.le_refl _) _).setCell (Nat.le_refl _) _).setCell (Nat.le_refl _) _)) (fun hHeld => ?_); clear hK K)
    try simp only [Act.put, List.setIfInBounds_toArray, List.set_cons_zero, List.set_cons_succ, List.getElem_toArray, List.getElem_cons_zero, List.getElem_cons_succ]
    refine wpAnyH_done (by kernel_rfl) ?_ _
    refine RQ0.normal ?_
    obtain ⟨W8, hW8⟩ : ∃ W8, (((W7.setCell ⟨wr.heap.size, 0, none⟩ (.int .i64 bd.src)).setCell ⟨wr.heap.size, 1, none⟩ (.bool bd.toPost)).setCell ⟨wr.heap.size, 2, none⟩ (.int .i64 bd.to)).setCell ⟨wr.heap.size, 3, none⟩ (.string bd.pattern) = W8 := ⟨_, rfl⟩
    have k8 : Bk W8 wr.heap.size 64 #[.int .i64 bd.src, .bool bd.toPost, .int .i64 bd.to, .string bd.pattern] := by
      rw [← hW8]
      exact (((kz.set_ 0 _).set_ 1 _).set_ 2 _).set_ 3 _
    have h8 : Below wr.heap.size wr W8 := by
      rw [← hW8]
      exact (((hb7.setCell (p := ⟨wr.heap.size, 0, none⟩) (Nat.le_refl _) _).setCell (p := ⟨wr.heap.size, 1, none⟩) (Nat.le_refl _) _).setCell (p := ⟨wr.heap.size, 2, none⟩) (Nat.le_refl _) _).setCell (p := ⟨wr.heap.size, 3, none⟩) (Nat.le_refl _) _
    rw [hW8]
    have HK8 := Lib.hid (And.intro k8 h8)
    clear hW8 k8 h8 kz hb7 z0 z1 z2 z3 f0 f1 f2 f3 zl hHeld
    have HW8 : Hid (Below W0.heap.size W0 W8) := Lib.hid (HW.out.trans (HK8.out.2.mono HW.out.size))
    have HIN8 := Lib.hid (HRI.out.1.since HRI.out.2 HW8.out)
    have HFITS : Hid (∀ W, Below W8.heap.size W8 W → Calls Tryd.prog 35 #[.agg #[.slice a1 p.posts.length c1, .slice a2 p.queues.length c2, .slice (some ⟨g, ob, none⟩) p.binds.length c3], .int .i64 (i : Int), .string key] W fun e w' => e = .returned (.tuple #[.bool true, .int .i64 0]) ∧ Below W.heap.size W w') := Lib.hid fun W hW => by
      have hIn := HRI.out.1.since HRI.out.2 (HW8.out.trans (hW.mono HW8.out.size))
      have := Fits_any p (i : Int) key a1 a2 (some ⟨g, ob, none⟩) c1 c2 c3 0 W hIn.env hIn.plan hs hkey
      rw [HF.out.1, HF.out.2] at this
      exact this
    have HK2 : Hid (∀ W, Below W8.heap.size W8 W → (W.cell? ⟨w.heap.size, 0, none⟩ = some (.slice a1 p.posts.length c1) ∧ W.cell? ⟨w.heap.size, 1, none⟩ = some (.slice a2 p.queues.length c2) ∧ W.cell? ⟨w.heap.size, 2, none⟩ = some (.slice (some ⟨g, ob, none⟩) p.binds.length c3) ∧ W.cell? ⟨b, o + j, none⟩ = some (.int .i64 (i : Int))) ∧ Below W8.heap.size W8 W) := Lib.hid fun W hW => by
      have hIn := HRI.out.1.since HRI.out.2 (HW8.out.trans (hW.mono HW8.out.size))
      exact ⟨⟨hIn.cells.1, hIn.cells.2.1, hIn.cells.2.2, (HK.out W (HK8.out.2.trans (hW.mono HK8.out.2.size))).1.2.1⟩, hW⟩
    go_wp2
    refine region_calm ?_
    refine wp_region_held_drew (S := (fun W => (W.cell? ⟨w.heap.size, 0, none⟩ = some (.slice a1 p.posts.length c1) ∧ W.cell? ⟨w.heap.size, 1, none⟩ = some (.slice a2 p.queues.length c2) ∧ W.cell? ⟨w.heap.size, 2, none⟩ = some (.slice (some ⟨g, ob, none⟩) p.binds.length c3) ∧ W.cell? ⟨b, o + j, none⟩ = some (.int .i64 (i : Int))) ∧ Below W8.heap.size W8 W)) (by kernel_rfl) (by first | assumption | exact HK2.out _ (Below.refl _ _).drew | exact HK2.out _ hB9) (fun hHeld => ?_)
    first | (refine wpAnyH_take (i := 0) (v := ?_) rfl (by kernel_rfl) (by kernel_rfl) (by kernel_rfl) (fun _ _ _ h => h) (Or.inl ⟨by rfl, ?_⟩) (by assumption) ?_; rotate_left; focus (intro w hSw; (try dsimp only at hSw); go_simp; (all_goals with_reducible rfl); done)) | (refine wpAnyH_take (i := 0) rfl (by kernel_rfl) (by kernel_rfl) (by kernel_rfl) (fun _ _ _ h => h) (Or.inr ⟨by rfl, rfl⟩) (by assumption) ?_) | fail "op 0"
    try simp only [Act.put, List.setIfInBounds_toArray, List.set_cons_zero, List.set_cons_succ, List.getElem_toArray, List.getElem_cons_zero]
    first | (refine wpAnyH_take (i := 1) (v := ?_) rfl (by kernel_rfl) (by kernel_rfl) (by kernel_rfl) (fun _ _ _ h => h) (Or.inl ⟨by rfl, ?_⟩) (by assumption) ?_; rotate_left; focus (intro w hSw; (try dsimp only at hSw); go_simp; (all_goals with_reducible rfl); done)) | (refine wpAnyH_take (i := 1) rfl (by kernel_rfl) (by kernel_rfl) (by kernel_rfl) (fun _ _ _ h => h) (Or.inr ⟨by rfl, rfl⟩) (by assumption) ?_) | fail "op 1"
    try simp only [Act.put, List.setIfInBounds_toArray, List.set_cons_zero, List.set_cons_succ, List.getElem_toArray, List.getElem_cons_zero, List.getElem_cons_succ]
    first | (refine wpAnyH_take (i := 2) (v := ?_) rfl (by kernel_rfl) (by kernel_rfl) (by kernel_rfl) (fun _ _ _ h => h) (Or.inl ⟨by rfl, ?_⟩) (by assumption) ?_; rotate_left; focus (intro w hSw; (try dsimp only at hSw); go_simp; (all_goals with_reducible rfl); done)) | (refine wpAnyH_take (i := 2) rfl (by kernel_rfl) (by kernel_rfl) (by kernel_rfl) (fun _ _ _ h => h) (Or.inr ⟨by rfl, rfl⟩) (by assumption) ?_) | fail "op 2"
    try simp only [Act.put, List.setIfInBounds_toArray, List.set_cons_zero, List.set_cons_succ, List.getElem_toArray, List.getElem_cons_zero, List.getElem_cons_succ]
    first | (refine wpAnyH_take (i := 3) (v := ?_) rfl (by kernel_rfl) (by kernel_rfl) (by kernel_rfl) (fun _ _ _ h => h) (Or.inl ⟨by rfl, ?_⟩) (by assumption) ?_; rotate_left; focus (intro w hSw; (try dsimp only at hSw); go_simp; (all_goals with_reducible rfl); done)) | (refine wpAnyH_take (i := 3) rfl (by kernel_rfl) (by kernel_rfl) (by kernel_rfl) (fun _ _ _ h => h) (Or.inr ⟨by rfl, rfl⟩) (by assumption) ?_) | fail "op 3"
    try simp only [Act.put, List.setIfInBounds_toArray, List.set_cons_zero, List.set_cons_succ, List.getElem_toArray, List.getElem_cons_zero, List.getElem_cons_succ]
    first | (refine wpAnyH_take (i := 4) (v := ?_) rfl (by kernel_rfl) (by kernel_rfl) (by kernel_rfl) (fun _ _ _ h => h) (Or.inl ⟨by rfl, ?_⟩) (by assumption) ?_; rotate_left; focus (intro w hSw; (try dsimp only at hSw); go_simp; (all_goals with_reducible rfl); done)) | (refine wpAnyH_take (i := 4) rfl (by kernel_rfl) (by kernel_rfl) (by kernel_rfl) (fun _ _ _ h => h) (Or.inr ⟨by rfl, rfl⟩) (by assumption) ?_) | fail "op 4"
    try simp only [Act.put, List.setIfInBounds_toArray, List.set_cons_zero, List.set_cons_succ, List.getElem_toArray, List.getElem_cons_zero, List.getElem_cons_succ]
    first | (refine wpAnyH_take (i := 5) (v := ?_) rfl (by kernel_rfl) (by kernel_rfl) (by kernel_rfl) (fun _ _ _ h => h) (Or.inl ⟨by rfl, ?_⟩) (by assumption) ?_; rotate_left; focus (intro w hSw; (try dsimp only at hSw); go_simp; (all_goals with_reducible rfl); done)) | (refine wpAnyH_take (i := 5) rfl (by kernel_rfl) (by kernel_rfl) (by kernel_rfl) (fun _ _ _ h => h) (Or.inr ⟨by rfl, rfl⟩) (by assumption) ?_) | fail "op 5"
    try simp only [Act.put, List.setIfInBounds_toArray, List.set_cons_zero, List.set_cons_succ, List.getElem_toArray, List.getElem_cons_zero, List.getElem_cons_succ]
    first
      | refine wpAnyH_take (i := 6) rfl (by kernel_rfl) (by kernel_rfl) (by kernel_rfl) (fun _ _ _ h => h) (Or.inr ⟨by rfl, rfl⟩) (by assumption) ?_
      | (refine wpAnyH_ready (rs := [6]) (by kernel_rfl) (by simp) ?_; refine AllReadyH.cons rfl (fun K hK => ?_) AllReadyH.nil; go_simp; (go_at_call 35; with_reducible refine (HFITS.out _ hHeld.2).mono ?_; rintro e W9 ⟨rfl, hb9⟩; have hB9 : Below W8.heap.size W8 W9 := (hHeld.2.trans (hb9.mono hHeld.2.size)); clear hb9); refine hK.out _ _ (by first | assumption | exact HK2.out _ (Below.refl _ _).drew | exact HK2.out _ hB9) (fun hHeld => ?_); clear hK K)
      | fail "call 6"
    try simp only [Act.put, List.setIfInBounds_toArray, List.set_cons_zero, List.set_cons_succ, List.getElem_toArray, List.getElem_cons_zero, List.getElem_cons_succ]
    first | (refine wpAnyH_take (i := 7) (v := ?_) rfl (by kernel_rfl) (by kernel_rfl) (by kernel_rfl) (fun _ _ _ h => h) (Or.inl ⟨by rfl, ?_⟩) (by assumption) ?_; rotate_left; focus (intro w hSw; (try dsimp only at hSw); go_simp; (all_goals with_reducible rfl); done)) | (refine wpAnyH_take (i := 7) rfl (by kernel_rfl) (by kernel_rfl) (by kernel_rfl) (fun _ _ _ h => h) (Or.inr ⟨by rfl, rfl⟩) (by assumption) ?_) | fail "op 7"
    try simp only [Act.put, List.setIfInBounds_toArray, List.set_cons_zero, List.set_cons_succ, List.getElem_toArray, List.getElem_cons_zero, List.getElem_cons_succ]
    first | (refine wpAnyH_take (i := 8) (v := ?_) rfl (by kernel_rfl) (by kernel_rfl) (by kernel_rfl) (fun _ _ _ h => h) (Or.inl ⟨by rfl, ?_⟩) (by assumption) ?_; rotate_left; focus (intro w hSw; (try dsimp only at hSw); go_simp; (all_goals with_reducible rfl); done)) | (refine wpAnyH_take (i := 8) rfl (by kernel_rfl) (by kernel_rfl) (by kernel_rfl) (fun _ _ _ h => h) (Or.inr ⟨by rfl, rfl⟩) (by assumption) ?_) | fail "op 8"
    try simp only [Act.put, List.setIfInBounds_toArray, List.set_cons_zero, List.set_cons_succ, List.getElem_toArray, List.getElem_cons_zero, List.getElem_cons_succ]
    first | (refine wpAnyH_take (i := 9) (v := ?_) rfl (by kernel_rfl) (by kernel_rfl) (by kernel_rfl) (fun _ _ _ h => h) (Or.inl ⟨by rfl, ?_⟩) (by assumption) ?_; rotate_left; focus (intro w hSw; (try dsimp only at hSw); go_simp; (all_goals with_reducible rfl); done)) | (refine wpAnyH_take (i := 9) rfl (by kernel_rfl) (by kernel_rfl) (by kernel_rfl) (fun _ _ _ h => h) (Or.inr ⟨by rfl, rfl⟩) (by assumption) ?_) | fail "op 9"
    try simp only [Act.put, List.setIfInBounds_toArray, List.set_cons_zero, List.set_cons_succ, List.getElem_toArray, List.getElem_cons_zero, List.getElem_cons_succ]
    first | (refine wpAnyH_take (i := 10) (v := ?_) rfl (by kernel_rfl) (by kernel_rfl) (by kernel_rfl) (fun _ _ _ h => h) (Or.inl ⟨by rfl, ?_⟩) (by assumption) ?_; rotate_left; focus (intro w hSw; (try dsimp only at hSw); go_simp; (all_goals with_reducible rfl); done)) | (refine wpAnyH_take (i := 10) rfl (by kernel_rfl) (by kernel_rfl) (by kernel_rfl) (fun _ _ _ h => h) (Or.inr ⟨by rfl, rfl⟩) (by assumption) ?_) | fail "op 10"
    try simp only [Act.put, List.setIfInBounds_toArray, List.set_cons_zero, List.set_cons_succ, List.getElem_toArray, List.getElem_cons_zero, List.getElem_cons_succ]
    first | (refine wpAnyH_take (i := 11) (v := ?_) rfl (by kernel_rfl) (by kernel_rfl) (by kernel_rfl) (fun _ _ _ h => h) (Or.inl ⟨by rfl, ?_⟩) (by assumption) ?_; rotate_left; focus (intro w hSw; (try dsimp only at hSw); go_simp; (all_goals with_reducible rfl); done)) | (refine wpAnyH_take (i := 11) rfl (by kernel_rfl) (by kernel_rfl) (by kernel_rfl) (fun _ _ _ h => h) (Or.inr ⟨by rfl, rfl⟩) (by assumption) ?_) | fail "op 11"
    try simp only [Act.put, List.setIfInBounds_toArray, List.set_cons_zero, List.set_cons_succ, List.getElem_toArray, List.getElem_cons_zero, List.getElem_cons_succ]
    refine wpAnyH_done (by kernel_rfl) ?_ _
    refine RQ0.normal ?_
    have HB9 := Lib.hid hB9
    clear hHeld hB9
    go_wp2
    refine rt_loop3 w.heap.size key q _ vp x j wr.heap.size ps W9 (HP.out.1.since (HW8.out.trans (HB9.out.mono HW8.out.size))) _ ?_ _ false 0 W9 rfl (Nat.zero_le _) rfl (Below.refl _ _)
    rintro t W c i' hc ht hW'
    obtain ⟨u', rfl⟩ := rt3_open ht
    obtain rfl : c = true := by
      rw [hc]
      exact decide_eq_true (HP.out.2 x HN.out.2.1)
    have HWW : Hid (Below W8.heap.size W8 W) := Lib.hid (HB9.out.trans (hW'.mono HB9.out.size))
    have kb := HK8.out.1.below HWW.out HK8.out.1.lt
    have s0 := kb.cell 0
    have s1 := kb.cell 1
    have s2 := kb.cell 2
    simp only [List.getElem?_toArray, List.getElem?_cons_zero, List.getElem?_cons_succ] at s0 s1 s2
    rw [HN.out.2.2] at s0
    have HR : Hid (∀ t : Array Value, ∀ (j' : Nat), j' = j + 1 → t = #[t.getD 0 undef, t.getD 1 undef, .string key, .int .i64 q, .pointer (some ⟨w.heap.size, 0, none⟩), t.getD 5 undef, t.getD 6 undef, t.getD 7 undef, .bool false, .slice (some ⟨b, o, none⟩) ls.length cp, t.getD 10 undef, t.getD 11 undef, t.getD 12 undef, t.getD 13 undef, vp, t.getD 15 undef, t.getD 16 undef, t.getD 17 undef, .int .i64 bd.to, .int .i64 (j' : Int), t.getD 20 undef, t.getD 21 undef, t.getD 22 undef, t.getD 23 undef, t.getD 24 undef, t.getD 25 undef, t.getD 26 undef, t.getD 27 undef, t.getD 28 undef, t.getD 29 undef, t.getD 30 undef, t.getD 31 undef, t.getD 32 undef, t.getD 33 undef, t.getD 34 undef, t.getD 35 undef, t.getD 36 undef, t.getD 37 undef, t.getD 38 undef, t.getD 39 undef, t.getD 40 undef, t.getD 41 undef, t.getD 42 undef, t.getD 43 undef, t.getD 44 undef, t.getD 45 undef, t.getD 46 undef, t.getD 47 undef, t.getD 48 undef, t.getD 49 undef, t.getD 50 undef, t.getD 51 undef, t.getD 52 undef, t.getD 53 undef, t.getD 54 undef, t.getD 55 undef, t.getD 56 undef, t.getD 57 undef, t.getD 58 undef, t.getD 59 undef, t.getD 60 undef, t.getD 61 undef, t.getD 62 undef, t.getD 63 undef, t.getD 64 undef, t.getD 65 undef, t.getD 66 undef, t.getD 67 undef, t.getD 68 undef, t.getD 69 undef, t.getD 70 undef, t.getD 71 undef, t.getD 72 undef, t.getD 73 undef, t.getD 74 undef, t.getD 75 undef, t.getD 76 undef, t.getD 77 undef, t.getD 78 undef, t.getD 79 undef, t.getD 80 undef, t.getD 81 undef, t.getD 82 undef, t.getD 83 undef, t.getD 84 undef, t.getD 85 undef, t.getD 86 undef, t.getD 87 undef, t.getD 88 undef, t.getD 89 undef, t.getD 90 undef, t.getD 91 undef, t.getD 92 undef, t.getD 93 undef, t.getD 94 undef, t.getD 95 undef, t.getD 96 undef, t.getD 97 undef, t.getD 98 undef, t.getD 99 undef, t.getD 100 undef, t.getD 101 undef, t.getD 102 undef, t.getD 103 undef, t.getD 104 undef, t.getD 105 undef, t.getD 106 undef, t.getD 107 undef, t.getD 108 undef, t.getD 109 undef, t.getD 110 undef, t.getD 111 undef, t.getD 112 undef, t.getD 113 undef, t.getD 114 undef, t.getD 115 undef, t.getD 116 undef, t.getD 117 undef, t.getD 118 undef, t.getD 119 undef, t.getD 120 undef, t.getD 121 undef, t.getD 122 undef, t.getD 123 undef, t.getD 124 undef, t.getD 125 undef, t.getD 126 undef, t.getD 127 undef, t.getD 128 undef, t.getD 129 undef, t.getD 130 undef, t.getD 131 undef, t.getD 132 undef, t.getD 133 undef, t.getD 134 undef, t.getD 135 undef, t.getD 136 undef, t.getD 137 undef, t.getD 138 undef, t.getD 139 undef, t.getD 140 undef, t.getD 141 undef, t.getD 142 undef, t.getD 143 undef, t.getD 144 undef, t.getD 145 undef, t.getD 146 undef, t.getD 147 undef, t.getD 148 undef, t.getD 149 undef, t.getD 150 undef, t.getD 151 undef, t.getD 152 undef, t.getD 153 undef, t.getD 154 undef, t.getD 155 undef, t.getD 156 undef, t.getD 157 undef, t.getD 158 undef, t.getD 159 undef, t.getD 160 undef, t.getD 161 undef, t.getD 162 undef, t.getD 163 undef, t.getD 164 undef, t.getD 165 undef, t.getD 166 undef, t.getD 167 undef, t.getD 168 undef, t.getD 169 undef, t.getD 170 undef, t.getD 171 undef, t.getD 172 undef, t.getD 173 undef, t.getD 174 undef, t.getD 175 undef, t.getD 176 undef, t.getD 177 undef, t.getD 178 undef, t.getD 179 undef, t.getD 180 undef, t.getD 181 undef, t.getD 182 undef, t.getD 183 undef, t.getD 184 undef, t.getD 185 undef, t.getD 186 undef, t.getD 187 undef, t.getD 188 undef, t.getD 189 undef, t.getD 190 undef, t.getD 191 undef, t.getD 192 undef, t.getD 193 undef, t.getD 194 undef, t.getD 195 undef, t.getD 196 undef] → rt2_inv p k w.heap.size key q (.slice (some ⟨b, o, none⟩) ls.length cp) vp ls W0 ⟨t, []⟩ W) :=
      Lib.hid fun t j' hj' ht => ⟨t, bd.to, j', ht, by omega, by rw [hj']; exact HN.out.1, HW8.out.trans (HWW.out.mono HW8.out.size), rfl⟩
    clear hc ht hW' kb
    have w1 : (0 : Int) ≤ (ls.length : Int) - 1 := by omega
    by_cases hlast : j = ls.length - 1
    · have q1 : ((j : Int) == (ls.length : Int) - 1) = true := by simp; omega
      have q2 : bd.toPost = false := by rw [HT.out, decide_eq_true hlast]; rfl
      rw [q2] at s1
      have HL := Lib.hid hlast
      clear hlast q2
      go_wp2
      exact ⟨HR.out _ _ rfl rfl, by simp [intOf]; omega⟩
    · have q1 : ((j : Int) == (ls.length : Int) - 1) = false := by simp; omega
      have q2 : bd.toPost = true := by rw [HT.out, decide_eq_false hlast]; rfl
      rw [q2] at s1
      have HL := Lib.hid hlast
      clear hlast q2
      go_wp2
      exact ⟨HR.out _ _ rfl rfl, by simp [intOf]; omega⟩
  · obtain rfl : j = ls.length := by omega
    have hxq : x = q := by
      rcases hx with ⟨h, _⟩ | ⟨_, h⟩
      · omega
      · exact h
    have HX := Lib.hid hxq
    clear hx hsl hxq
    go_wp2
    exact HEND.out _ _ x ls.length HX.out rfl HW.out
end Go.Proofs.YtapimpmpjighmaaDoor

namespace Go.Proofs.YtapimpmpjighmaaDoor
open Go Go.RowKit
set_option maxRecDepth 100000

theorem ints_in {w : World} {base : Nat} {v : Value} {xs : List Int} (h : IntsO w base v xs) (hl : xs.length ≤ 1048576) : IntsIn w v xs := by
  obtain ⟨a, c, rfl, _⟩ := own_slice h
  exact ⟨a, c, rfl, hl, (Sl.of_own (n := xs.length) h).wider (Nat.zero_le _) (Nat.le_refl _)⟩
theorem goes_len {p : PlanD} {key : ByteArray} {q : Int} : ∀ {x : Int} {l : List Int}, Goes p key q x l → 0 < l.length
  | _, _, .last _ _ _ _ => by simp
  | _, _, .more _ _ _ _ => by simp
theorem wayF_len {p : PlanD} (hr : PlanRight p) {k : Nat} (hk : k < p.posts.length) {key : ByteArray} {q : Int} {l : List Int} (h : wayF p k key q = some l) : l.length ≤ 1048576 := by
  rw [wayF_eq hr hk] at h
  unfold wayOf at h
  obtain ⟨i, hi, h1⟩ := List.exists_of_findSome?_eq_some h
  rw [wayBy_paths] at h1
  obtain ⟨r, hr', h2⟩ := List.exists_of_findSome?_eq_some h1
  have := paths_len p key i k r hr'
  unfold hitW at h2
  rw [Option.map_eq_some_iff] at h2
  obtain ⟨y, _, rfl⟩ := h2
  have hp := hr.posts
  rw [List.mem_range] at hi
  simp
  omega

set_option maxHeartbeats 8000000 in
theorem routeTrue_any (p : PlanD) (a1 a2 a3 : Option Addr) (c1 c2 c3 : Nat) (n : Int) (key : ByteArray) (q : Int) (w : World) (hp : PlanAt w 0 w.heap.size a1 a2 a3 p) (hs : PlanSmall p) (_ : PlanInts p) (_ : -9223372036854775808 ≤ n ∧ n ≤ 9223372036854775807) (hkey : key.size ≤ 1048576) (_ : -9223372036854775808 ≤ q ∧ q ≤ 9223372036854775807) (hE : Env w) :
    Calls Tryd.prog 10 #[planV p a1 a2 a3 c1 c2 c3, .int .i64 n, .string key, .int .i64 q] w fun e w' => e = .returned (.bool true) ∧ Below w.heap.size w w' := by
  have HS := Lib.hid hs
  have HE := Lib.hid hE
  have hbx := boxed_new hp c1 c2 c3 26
  have hz0 : (w.alloc (.cells #[Value.slice a1 p.posts.length c1, Value.slice a2 p.queues.length c2, Value.slice a3 p.binds.length c3] 26)).heap.size = w.heap.size + 1 := by simp
  unfold planV
  clear hp hs hE
  go_enter Tryd.func10, Tryd.ntmps10
  obtain ⟨m0, m1, m2⟩ := (hbx _ (Below.refl _ _)).2.1
  have HBX := Lib.hid hbx
  clear hbx
  go_wp2_with fail
  generalize w.alloc (.cells #[Value.slice a1 p.posts.length c1, Value.slice a2 p.queues.length c2, Value.slice a3 p.binds.length c3] 26) = W0 at *
  have HZ := Lib.hid hz0
  clear hz0
  have HIN : Hid (∀ W, Below W0.heap.size W0 W → RtIn w p a1 a2 a3 c1 c2 c3 W ∧ Below w.heap.size w W) := Lib.hid fun W hW => ⟨⟨(HBX.out W hW).2.1, ((HBX.out W hW).1).wider (Nat.le_refl _) hW.size, below_env (HBX.out W hW).2.2 HE.out⟩, (HBX.out W hW).2.2⟩
  clear HBX
  have hcall := Way_any p n q key a1 a2 a3 c1 c2 c3 W0 (HIN.out _ (Below.refl _ _)).1.env (HIN.out _ (Below.refl _ _)).1.plan HS.out hkey
  unfold planV at hcall
  refine hcall.mono ?_
  clear hcall m0 m1 m2
  rintro e w1 ⟨vl, rfl, n1, n2⟩
  obtain ⟨al, cl, rfl, _⟩ := own_slice n1
  have HL := Lib.hid (And.intro n1 n2)
  obtain ⟨m0, m1, m2⟩ := (HIN.out _ n2).1.cells
  clear n1 n2
  go_wp2_with fail
  have hcall := Queues_any p n key a1 a2 a3 c1 c2 c3 w1 (HIN.out _ HL.out.2).1.env (HIN.out _ HL.out.2).1.plan HS.out hkey
  unfold planV at hcall
  refine hcall.mono ?_
  clear hcall m0 m1 m2
  rintro e w2 ⟨vq, rfl, n1, n2⟩
  obtain ⟨aq, cq, rfl, _⟩ := own_slice n1
  have HQ := Lib.hid (And.intro n1 n2)
  have HB2 := Lib.hid (HL.out.2.trans (n2.mono HL.out.2.size))
  obtain ⟨m0, m1, m2⟩ := (HIN.out _ HB2.out).1.cells
  clear n1 n2
  go_wp2_with fail
  have hcall := Posts_any p n key a1 a2 a3 c1 c2 c3 w2 (HIN.out _ HB2.out).1.env (HIN.out _ HB2.out).1.plan HS.out hkey
  unfold planV at hcall
  refine hcall.mono ?_
  clear hcall m0 m1 m2
  rintro e w3 ⟨vp, rfl, n1, n2⟩
  obtain ⟨ap, cp, rfl, _⟩ := own_slice n1
  have HP := Lib.hid (And.intro n1 n2)
  have HB3 := Lib.hid (HB2.out.trans (n2.mono HB2.out.size))
  clear n1 n2
  by_cases hc : wayErr p n key q = 0
  · have hre : routeErr p n key = 0 := by
      unfold wayErr at hc
      split at hc
      · exact hc
      · rename_i h; exact Decidable.not_not.1 h
    obtain ⟨hr, k, rfl, hk, hke⟩ := routeErr_ok hre
    have hwr : wayR p k key q = wayF p k key q := by unfold wayR; rw [if_pos hc]
    have hqr : queuesR p k key = ofL p k key := by unfold queuesR; rw [if_pos hre]
    have hpr : postsR p k key = sortI (outs p k key) := by unfold postsR; rw [if_pos hre]
    have his := wayF_isSome hr hk (key := key) (q := q)
    have hqi : 0 ≤ q ∧ q < (p.queues.length : Int) := by
      unfold wayErr at hc
      rw [if_neg (by simp [hre])] at hc
      split at hc
      · cases hc
      · omega
    have hql : (queuesR p k key).length ≤ 1048576 := by rw [hqr]; have h1 := nodup_bound p.queues.length ((ofL_asc p k key).imp fun h => by omega) fun x hx => ofL_lt hr hk hx; have := hr.queues; omega
    have hpl : (postsR p k key).length ≤ 1048576 := by
      rw [hpr, sortI_len]
      have h1 := (outAt_ok hr hk p.posts.length (key := key)).len
      have h2 := hr.posts
      unfold outs
      omega
    have hasc : (queuesR p k key).Pairwise (· < ·) := by rw [hqr]; exact ofL_asc _ _ _
    have hps : ∀ x, Reach p key k x → x ∈ postsR p k key := fun x hx => by rw [hpr, sortI_mem, outs_mem hr hk]; exact hx
    have hcp : checkP p = 0 := by
      unfold routeErr at hre
      split at hre
      · exact hre
      · rename_i h; exact Decidable.not_not.1 h
    have hIQ := ints_in (HQ.out.1) hql
    have hIP := ints_in (HP.out.1) hpl
    rw [hc, hre]
    have hmem : ∀ b : Bool, b = (wayR p k key q).isSome → b = decide (q ∈ queuesR p k key) := fun b hb => by
      rw [hb, hwr, hqr, Bool.eq_iff_iff, his]
      simp
    have HLL : Hid (∀ l, wayR p k key q = some l → l.length ≤ 1048576 ∧ Goes p key q k l) := Lib.hid fun l hl => by
      rw [hwr] at hl
      exact ⟨wayF_len hr hk hl, by rw [wayF_eq hr hk] at hl; exact wayOf_goes hl⟩
    have HH := Lib.hid (And.intro hr (And.intro hk (And.intro hke (And.intro hcp (And.intro hps (And.intro hIQ (And.intro hIP hasc)))))))
    have HM := Lib.hid hmem
    clear hc hre hwr hqr hpr his hqi hql hpl hasc hps hcp hIQ hIP hmem hke hr hk
    generalize hqs : queuesR p k key = qs at *
    generalize hps : postsR p k key = ps at *
    generalize hwy : wayR p k key q = wy at *
    clear hqs hps hwy
    generalize hib : wy.isSome = is at *
    have HIB := Lib.hid hib
    clear hib
    go_wp2
    refine rt_loop1 w.heap.size k key q _ _ _ is qs w3 (HH.out.2.2.2.2.2.1.since HP.out.2) HH.out.2.2.2.2.2.2.2 _ ?_ _ false 0 w3 rfl (Nat.zero_le _) rfl (Below.refl _ _)
    rintro t W c j hcq ht hW
    obtain ⟨u, rfl⟩ := rt1_open ht
    obtain rfl : c = is := hcq.trans (HM.out is rfl).symm
    have HW := Lib.hid (HB3.out.trans (hW.mono HB3.out.size))
    have HW' := Lib.hid hW
    clear hcq ht hW
    cases c
    · go_wp2_with fail
      refine (routeBegun_any W (HIN.out _ HW.out).1.env).mono ?_
      rintro e w4 ⟨rfl, n4⟩
      have HN4 := Lib.hid (HW.out.trans (n4.mono HW.out.size))
      clear n4
      go_wp2_with fail
      go_ret
      exact ⟨rfl, (HIN.out _ HN4.out).2⟩
    · obtain ⟨l, hl⟩ : ∃ l, wy = some l := Option.isSome_iff_exists.1 HIB.out
      subst hl
      have HG := Lib.hid (HLL.out l rfl)
      have hIL : IntsIn W (.slice al l.length cl) l := ((ints_in (HL.out.1) HG.out.1).since ((HQ.out.2.trans (HP.out.2.mono HQ.out.2.size)))).since HW'.out
      have HIL := Lib.hid hIL
      have hlen := goes_len HG.out.2
      have HLEN := Lib.hid hlen
      simp only [Option.getD_some]
      clear hIL hlen HLL HM HIB
      go_wp2
      refine rt_loop2 p HH.out.1 HS.out k HH.out.2.1 key hkey HH.out.2.2.1 HH.out.2.2.2.1 q a1 a2 a3 c1 c2 c3 w _ _ l ps W HIL.out (HH.out.2.2.2.2.2.2.1.since HW'.out) HH.out.2.2.2.2.1 (HIN.out _ HW.out).1 (by have := HW.out.size; have := HZ.out; omega) _ ?_ _ (k : Int) 0 W rfl (Nat.zero_le _) (.inl ⟨HLEN.out, HG.out.2, .start⟩) (Below.refl _ _)
      rintro t W2 x j hx ht hW2
      obtain ⟨u2, rfl⟩ := rt2_open ht
      obtain rfl := hx
      have HW2 := Lib.hid (HW.out.trans (hW2.mono HW.out.size))
      clear ht hW2
      have hl0 : (0 : Int) < (l.length : Int) := by have := HLEN.out; omega
      go_wp2_with fail
      refine (routeBegun_any W2 (HIN.out _ HW2.out).1.env).mono ?_
      rintro e w4 ⟨rfl, n4⟩
      have HN4 := Lib.hid (HW2.out.trans (n4.mono HW2.out.size))
      clear n4
      go_wp2_with fail
      go_ret
      exact ⟨rfl, (HIN.out _ HN4.out).2⟩
  · have b1 : (wayErr p n key q != 0) = true := by simp [hc]
    clear hc
    go_wp2_with fail
    refine (routeBegun_any w3 (HIN.out _ HB3.out).1.env).mono ?_
    rintro e w4 ⟨rfl, n4⟩
    have HN4 := Lib.hid (HB3.out.trans (n4.mono HB3.out.size))
    clear n4
    go_wp2_with fail
    go_ret
    exact ⟨rfl, (HIN.out _ HN4.out).2⟩

end Go.Proofs.YtapimpmpjighmaaDoor
