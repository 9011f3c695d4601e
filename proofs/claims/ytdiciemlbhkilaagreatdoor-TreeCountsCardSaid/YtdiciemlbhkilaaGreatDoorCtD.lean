/- TreeCounts: part 4. -/
import Derived.Test.YtdiciemlbhkilaaGreatDoorCtC
import Derived.Shelf.Strings.Builder1
import Derived.Shelf.Small.Bits
import Derived.Shelf.Small.Wraps
import Derived.Shelf.Strings.BuilderF
import Derived.Shelf.Strings.BuilderK
import Derived.Shelf.Strconv.Atoi
import Derived.Shelf.Strconv.Itoa0
import Derived.Shelf.Strconv.Itoa1
import Derived.Shelf.LaysM
import Derived.Shelf.Strconv.Itoa2
import Derived.Shelf.Strconv.Itoa3
import Derived.Shelf.Strings.BuilderCap
import Derived.Ground.Names2Prog
import Derived.Shelf.Slices.Clone
import Derived.Shelf.Slices.SearchI
import Derived.Shelf.Slices.In.SortNone
import Derived.Ground.SlgnProg
import Derived.Shelf.SlicesE.Clone
import Derived.Ground.SlgmProg
import Derived.Shelf.SortM.Plain
import Derived.Test.YtdiciemlbhkilaaGreatDoorProg
import Derived.Lib.AtoiErrMem
namespace Go.Proofs
open Go.Shelf
def Tryz.lays169_ren : Go.Shelf.Ren := ⟨fun | 169 => 76 | n => n, fun | 70 => 126 | 9 => 9 | 0 => 0 | 72 => 128 | 37 => 123 | 127 => 158 | 3 => 3 | 5 => 5 | n => n, fun | n => n⟩
theorem Tryz.lays169 : Go.Proofs.Lays.n169 Tryz.prog Tryz.lays169_ren := {
  mixed := by kernel_rfl
  f169 := Tryz.func76.trans (congrArg some (by kernel_rfl))
  t0 := Tryz.underlying0
  a0 := Tryz.isAgg0
  z0 := Tryz.sizeOf0
  v0 := Tryz.zeroValue0
  t3 := Tryz.underlying3
  a3 := Tryz.isAgg3
  z3 := Tryz.sizeOf3
  v3 := Tryz.zeroValue3
  t9 := Tryz.underlying9
  a9 := Tryz.isAgg9
  z9 := Tryz.sizeOf9
  v9 := Tryz.zeroValue9
  t37 := Tryz.underlying123
  a37 := Tryz.isAgg123
  z37 := Tryz.sizeOf123
  v37 := Tryz.zeroValue123
  t70 := Tryz.underlying126
  a70 := Tryz.isAgg126
  z70 := Tryz.sizeOf126
  v70 := Tryz.zeroValue126
  t72 := Tryz.underlying128
  a72 := Tryz.isAgg128
  z72 := Tryz.sizeOf128
  v72 := Tryz.zeroValue128
  t127 := Tryz.underlying158
  a127 := Tryz.isAgg158
  z127 := Tryz.sizeOf158
  v127 := Tryz.zeroValue158 }
theorem Tryz.Builder_Extra_169 : Builder.Extra Tryz.prog Tryz.lays169_ren := {
  sizeBuilder := by kernel_rfl
  liesBuilder := by kernel_rfl
  t5 := Tryz.underlying5
  a5 := Tryz.isAgg5
  z5 := Tryz.sizeOf5
  v5 := Tryz.zeroValue5
  infoByte := by kernel_rfl
  cellsByte := by kernel_rfl
  sizeByte := by kernel_rfl
  neB5 := by decide }
open Go.RowKit in
theorem Tryz.Builder_String_any (B b : Nat) (l : List UInt8) (w : World) (h : Lib.IsBuilder 128 5 B b (Lib.byteCells l) w) (hBw : B ≤ w.heap.size) :
    Calls Tryz.prog 76 #[.pointer (some ⟨b, 0, none⟩)] w fun e w' => e = .returned (.string ⟨l.toArray⟩) ∧ Below B w w' := Any.Builder_String_any Tryz.lays169 Tryz.Builder_Extra_169 B b l w h hBw
def Tryz.lays126_ren : Go.Shelf.Ren := ⟨fun | 126 => 143 | n => n, fun | 5 => 5 | 3 => 3 | 9 => 9 | n => n, fun | n => n⟩
theorem Tryz.lays126 : Go.Proofs.Lays.n126 Tryz.prog Tryz.lays126_ren := {
  mixed := by kernel_rfl
  f126 := Tryz.func143.trans (congrArg some (by kernel_rfl))
  t3 := Tryz.underlying3
  a3 := Tryz.isAgg3
  z3 := Tryz.sizeOf3
  v3 := Tryz.zeroValue3
  t5 := Tryz.underlying5
  a5 := Tryz.isAgg5
  z5 := Tryz.sizeOf5
  v5 := Tryz.zeroValue5
  t9 := Tryz.underlying9
  a9 := Tryz.isAgg9
  z9 := Tryz.sizeOf9
  v9 := Tryz.zeroValue9 }
theorem Tryz.bits_Len8 (x : Int) (w : World) (h0 : 0 ≤ x) (h1 : x ≤ 255) :
    Calls Tryz.prog 143 #[.int .u8 x] w fun e w' => e = .returned (.int .i64 (Lib.bitLen x.toNat)) ∧ w' = w := Any.bits_Len8 Tryz.lays126 x w h0 h1
def Tryz.lays172_ren : Go.Shelf.Ren := ⟨fun | 172 => 135 | 244 => 145 | 245 => 146 | 247 => 162 | 279 => 163 | 280 => 164 | 281 => 165 | 282 => 166 | 287 => 177 | 316 => 178 | 171 => 80 | 205 => 179 | 321 => 182 | 322 => 183 | 243 => 116 | 246 => 137 | 283 => 147 | 284 => 148 | 285 => 149 | 286 => 150 | 129 => 161 | 317 => 167 | 318 => 168 | 319 => 169 | 320 => 170 | 337 => 180 | 338 => 95 | n => n, fun | 9 => 9 | 3 => 3 | 75 => 130 | 76 => 171 | 4 => 4 | 5 => 5 | 167 => 194 | 37 => 123 | 0 => 0 | 85 => 195 | 2 => 2 | 168 => 197 | 53 => 38 | 175 => 208 | 46 => 116 | 210 => 212 | 127 => 158 | 145 => 221 | 143 => 219 | 21 => 21 | 171 => 182 | 173 => 184 | 212 => 200 | 51 => 124 | 20 => 20 | 213 => 201 | 232 => 222 | 233 => 166 | 80 => 70 | n => n, fun | 15 => 2 | 16 => 3 | 17 => 1 | 18 => 4 | 19 => 0 | n => n⟩
theorem Tryz.lays172 : Go.Proofs.Lays.n172 Tryz.prog Tryz.lays172_ren := {
  mixed := by kernel_rfl
  f129 := Tryz.func161.trans (congrArg some (by kernel_rfl))
  f171 := Tryz.func80.trans (congrArg some (by kernel_rfl))
  f172 := Tryz.func135.trans (congrArg some (by kernel_rfl))
  f205 := Tryz.func179.trans (congrArg some (by kernel_rfl))
  f243 := Tryz.func116.trans (congrArg some (by kernel_rfl))
  f244 := Tryz.func145.trans (congrArg some (by kernel_rfl))
  f245 := Tryz.func146.trans (congrArg some (by kernel_rfl))
  f246 := Tryz.func137.trans (congrArg some (by kernel_rfl))
  f247 := Tryz.func162.trans (congrArg some (by kernel_rfl))
  f279 := Tryz.func163.trans (congrArg some (by kernel_rfl))
  f280 := Tryz.func164.trans (congrArg some (by kernel_rfl))
  f281 := Tryz.func165.trans (congrArg some (by kernel_rfl))
  f282 := Tryz.func166.trans (congrArg some (by kernel_rfl))
  f283 := Tryz.func147.trans (congrArg some (by kernel_rfl))
  f284 := Tryz.func148.trans (congrArg some (by kernel_rfl))
  f285 := Tryz.func149.trans (congrArg some (by kernel_rfl))
  f286 := Tryz.func150.trans (congrArg some (by kernel_rfl))
  f287 := Tryz.func177.trans (congrArg some (by kernel_rfl))
  f316 := Tryz.func178.trans (congrArg some (by kernel_rfl))
  f317 := Tryz.func167.trans (congrArg some (by kernel_rfl))
  f318 := Tryz.func168.trans (congrArg some (by kernel_rfl))
  f319 := Tryz.func169.trans (congrArg some (by kernel_rfl))
  f320 := Tryz.func170.trans (congrArg some (by kernel_rfl))
  f321 := Tryz.func182.trans (congrArg some (by kernel_rfl))
  f322 := Tryz.func183.trans (congrArg some (by kernel_rfl))
  f337 := Tryz.func180.trans (congrArg some (by kernel_rfl))
  f338 := Tryz.func95.trans (congrArg some (by kernel_rfl))
  t0 := Tryz.underlying0
  a0 := Tryz.isAgg0
  z0 := Tryz.sizeOf0
  v0 := Tryz.zeroValue0
  t2 := Tryz.underlying2
  a2 := Tryz.isAgg2
  z2 := Tryz.sizeOf2
  v2 := Tryz.zeroValue2
  t3 := Tryz.underlying3
  a3 := Tryz.isAgg3
  z3 := Tryz.sizeOf3
  v3 := Tryz.zeroValue3
  t4 := Tryz.underlying4
  a4 := Tryz.isAgg4
  z4 := Tryz.sizeOf4
  v4 := Tryz.zeroValue4
  t5 := Tryz.underlying5
  a5 := Tryz.isAgg5
  z5 := Tryz.sizeOf5
  v5 := Tryz.zeroValue5
  t9 := Tryz.underlying9
  a9 := Tryz.isAgg9
  z9 := Tryz.sizeOf9
  v9 := Tryz.zeroValue9
  t20 := Tryz.underlying20
  a20 := Tryz.isAgg20
  z20 := Tryz.sizeOf20
  v20 := Tryz.zeroValue20
  t21 := Tryz.underlying21
  a21 := Tryz.isAgg21
  z21 := Tryz.sizeOf21
  v21 := Tryz.zeroValue21
  t37 := Tryz.underlying123
  a37 := Tryz.isAgg123
  z37 := Tryz.sizeOf123
  v37 := Tryz.zeroValue123
  t46 := Tryz.underlying116
  a46 := Tryz.isAgg116
  z46 := Tryz.sizeOf116
  v46 := Tryz.zeroValue116
  t51 := Tryz.underlying124
  a51 := Tryz.isAgg124
  z51 := Tryz.sizeOf124
  v51 := Tryz.zeroValue124
  t53 := Tryz.underlying38
  a53 := Tryz.isAgg38
  z53 := Tryz.sizeOf38
  v53 := Tryz.zeroValue38
  t75 := Tryz.underlying130
  a75 := Tryz.isAgg130
  z75 := Tryz.sizeOf130
  v75 := Tryz.zeroValue130
  t76 := Tryz.underlying171
  a76 := Tryz.isAgg171
  z76 := Tryz.sizeOf171
  v76 := Tryz.zeroValue171
  t85 := Tryz.underlying195
  a85 := Tryz.isAgg195
  z85 := Tryz.sizeOf195
  v85 := Tryz.zeroValue195
  t127 := Tryz.underlying158
  a127 := Tryz.isAgg158
  z127 := Tryz.sizeOf158
  v127 := Tryz.zeroValue158
  t143 := Tryz.underlying219
  a143 := Tryz.isAgg219
  z143 := Tryz.sizeOf219
  v143 := Tryz.zeroValue219
  t145 := Tryz.underlying221
  a145 := Tryz.isAgg221
  z145 := Tryz.sizeOf221
  v145 := Tryz.zeroValue221
  t167 := Tryz.underlying194
  a167 := Tryz.isAgg194
  z167 := Tryz.sizeOf194
  v167 := Tryz.zeroValue194
  t168 := Tryz.underlying197
  a168 := Tryz.isAgg197
  z168 := Tryz.sizeOf197
  v168 := Tryz.zeroValue197
  t171 := Tryz.underlying182
  a171 := Tryz.isAgg182
  z171 := Tryz.sizeOf182
  v171 := Tryz.zeroValue182
  t173 := Tryz.underlying184
  a173 := Tryz.isAgg184
  z173 := Tryz.sizeOf184
  v173 := Tryz.zeroValue184
  t175 := Tryz.underlying208
  a175 := Tryz.isAgg208
  z175 := Tryz.sizeOf208
  v175 := Tryz.zeroValue208
  t210 := Tryz.underlying212
  a210 := Tryz.isAgg212
  z210 := Tryz.sizeOf212
  v210 := Tryz.zeroValue212
  t212 := Tryz.underlying200
  a212 := Tryz.isAgg200
  z212 := Tryz.sizeOf200
  v212 := Tryz.zeroValue200
  t213 := Tryz.underlying201
  a213 := Tryz.isAgg201
  z213 := Tryz.sizeOf201
  t232 := Tryz.underlying222
  a232 := Tryz.isAgg222
  z232 := Tryz.sizeOf222
  v232 := Tryz.zeroValue222
  t233 := Tryz.underlying166
  a233 := Tryz.isAgg166
  z233 := Tryz.sizeOf166
  v233 := Tryz.zeroValue166
  g15 := by kernel_rfl
  g16 := by kernel_rfl
  g17 := by kernel_rfl
  g18 := by kernel_rfl
  g19 := by kernel_rfl }
open Go.RowKit in
theorem Tryz.strconv_Atoi (s : ByteArray) (n : Int) (hl : s.size ≤ 18) (h : Lib.atoi s.data.toList = some n) (w : World) :
    Calls Tryz.prog 135 #[.string s] w fun e w' => e = .returned (.tuple #[.int .i64 n, .nilIface]) ∧ ∃ t, w' = Lib.bytesWorld w 5 t := Any.strconv_Atoi Tryz.lays172 s n hl h w
def Tryz.laysM246_ren : Go.Shelf.Ren := ⟨fun | 246 => 137 | 283 => 147 | 284 => 148 | 285 => 149 | 286 => 150 | 129 => 161 | 317 => 167 | 318 => 168 | 319 => 169 | 320 => 170 | 337 => 180 | 338 => 95 | n => n, fun | 2 => 2 | 3 => 3 | 9 => 9 | 4 => 4 | 171 => 182 | 0 => 0 | 53 => 38 | 37 => 123 | 5 => 5 | 173 => 184 | 212 => 200 | 51 => 124 | 20 => 20 | 213 => 201 | 46 => 116 | 232 => 222 | 233 => 166 | n => n, fun | 17 => 1 | 18 => 4 | 19 => 0 | n => n⟩
def Tryz.laysM243_ren : Go.Shelf.Ren := ⟨fun | 243 => 116 | 246 => 137 | 283 => 147 | 284 => 148 | 285 => 149 | 286 => 150 | 129 => 161 | 317 => 167 | 318 => 168 | 319 => 169 | 320 => 170 | 337 => 180 | 338 => 95 | n => n, fun | 3 => 3 | 9 => 9 | 2 => 2 | 4 => 4 | 171 => 182 | 0 => 0 | 53 => 38 | 37 => 123 | 5 => 5 | 173 => 184 | 212 => 200 | 51 => 124 | 20 => 20 | 213 => 201 | 46 => 116 | 232 => 222 | 233 => 166 | n => n, fun | 17 => 1 | 18 => 4 | 19 => 0 | n => n⟩
def Tryz.laysM171_ren : Go.Shelf.Ren := ⟨fun | 171 => 80 | 243 => 116 | 246 => 137 | 283 => 147 | 284 => 148 | 285 => 149 | 286 => 150 | 129 => 161 | 317 => 167 | 318 => 168 | 319 => 169 | 320 => 170 | 337 => 180 | 338 => 95 | n => n, fun | 3 => 3 | 9 => 9 | 2 => 2 | 4 => 4 | 171 => 182 | 0 => 0 | 53 => 38 | 37 => 123 | 5 => 5 | 173 => 184 | 212 => 200 | 51 => 124 | 20 => 20 | 213 => 201 | 46 => 116 | 232 => 222 | 233 => 166 | n => n, fun | 17 => 1 | 18 => 4 | 19 => 0 | n => n⟩
theorem Tryz.laysM171 : Go.Proofs.LaysM.n171 Tryz.prog Tryz.laysM171_ren := {
  mixed := by kernel_rfl
  f129 := Tryz.func161.trans (congrArg some (by kernel_rfl))
  f171 := Tryz.func80.trans (congrArg some (by kernel_rfl))
  f243 := Tryz.func116.trans (congrArg some (by kernel_rfl))
  f246 := Tryz.func137.trans (congrArg some (by kernel_rfl))
  f283 := Tryz.func147.trans (congrArg some (by kernel_rfl))
  f284 := Tryz.func148.trans (congrArg some (by kernel_rfl))
  f285 := Tryz.func149.trans (congrArg some (by kernel_rfl))
  f286 := Tryz.func150.trans (congrArg some (by kernel_rfl))
  f317 := Tryz.func167.trans (congrArg some (by kernel_rfl))
  f318 := Tryz.func168.trans (congrArg some (by kernel_rfl))
  f319 := Tryz.func169.trans (congrArg some (by kernel_rfl))
  f320 := Tryz.func170.trans (congrArg some (by kernel_rfl))
  f337 := Tryz.func180.trans (congrArg some (by kernel_rfl))
  f338 := Tryz.func95.trans (congrArg some (by kernel_rfl))
  t0 := Tryz.underlying0
  a0 := Tryz.isAgg0
  z0 := Tryz.sizeOf0
  v0 := Tryz.zeroValue0
  t2 := Tryz.underlying2
  a2 := Tryz.isAgg2
  z2 := Tryz.sizeOf2
  v2 := Tryz.zeroValue2
  t3 := Tryz.underlying3
  a3 := Tryz.isAgg3
  z3 := Tryz.sizeOf3
  v3 := Tryz.zeroValue3
  t4 := Tryz.underlying4
  a4 := Tryz.isAgg4
  z4 := Tryz.sizeOf4
  v4 := Tryz.zeroValue4
  t5 := Tryz.underlying5
  a5 := Tryz.isAgg5
  z5 := Tryz.sizeOf5
  v5 := Tryz.zeroValue5
  t9 := Tryz.underlying9
  a9 := Tryz.isAgg9
  z9 := Tryz.sizeOf9
  v9 := Tryz.zeroValue9
  t20 := Tryz.underlying20
  a20 := Tryz.isAgg20
  z20 := Tryz.sizeOf20
  v20 := Tryz.zeroValue20
  t37 := Tryz.underlying123
  a37 := Tryz.isAgg123
  z37 := Tryz.sizeOf123
  v37 := Tryz.zeroValue123
  t46 := Tryz.underlying116
  a46 := Tryz.isAgg116
  z46 := Tryz.sizeOf116
  v46 := Tryz.zeroValue116
  t51 := Tryz.underlying124
  a51 := Tryz.isAgg124
  z51 := Tryz.sizeOf124
  v51 := Tryz.zeroValue124
  t53 := Tryz.underlying38
  a53 := Tryz.isAgg38
  z53 := Tryz.sizeOf38
  v53 := Tryz.zeroValue38
  t171 := Tryz.underlying182
  a171 := Tryz.isAgg182
  z171 := Tryz.sizeOf182
  v171 := Tryz.zeroValue182
  t173 := Tryz.underlying184
  a173 := Tryz.isAgg184
  z173 := Tryz.sizeOf184
  v173 := Tryz.zeroValue184
  t212 := Tryz.underlying200
  a212 := Tryz.isAgg200
  z212 := Tryz.sizeOf200
  v212 := Tryz.zeroValue200
  t213 := Tryz.underlying201
  a213 := Tryz.isAgg201
  z213 := Tryz.sizeOf201
  t232 := Tryz.underlying222
  a232 := Tryz.isAgg222
  z232 := Tryz.sizeOf222
  v232 := Tryz.zeroValue222
  t233 := Tryz.underlying166
  a233 := Tryz.isAgg166
  z233 := Tryz.sizeOf166
  v233 := Tryz.zeroValue166
  g17 := by kernel_rfl
  g18 := by kernel_rfl
  g19 := by kernel_rfl
  i0 := by kernel_rfl
  i2 := by kernel_rfl
  i3 := by kernel_rfl
  i4 := by kernel_rfl
  i5 := by kernel_rfl
  i9 := by kernel_rfl
  i20 := by kernel_rfl
  i37 := by kernel_rfl
  i46 := by kernel_rfl
  i51 := by kernel_rfl
  i53 := by kernel_rfl
  i171 := by kernel_rfl
  i173 := by kernel_rfl
  i212 := by kernel_rfl
  i232 := by kernel_rfl
  i233 := by kernel_rfl
  m17 := by kernel_rfl
  m18 := by kernel_rfl
  m19 := by kernel_rfl }
open Go.RowKit Go.Sort Go.Lib in
theorem Tryz.strconv_Itoa (n : Int) (h0 : -9223372036854775808 ≤ n) (h1 : n ≤ 9223372036854775807) (w : World) (htab : Lib.TabIs Tryz.prog w "internal/strconv.uint64pow10" .u64 Lib.pow10Tab) :
    Calls Tryz.prog 80 #[.int .i64 n] w fun e w' => e = .returned (.string ⟨(Lib.itoa n).toArray⟩) ∧ ∃ k os, w' = grow (w.drewN k) os := Any.strconv_Itoa Tryz.laysM171 n h0 h1 w htab
def Tryz.lays171_ren : Go.Shelf.Ren := ⟨fun | 171 => 80 | 243 => 116 | 246 => 137 | 283 => 147 | 284 => 148 | 285 => 149 | 286 => 150 | 129 => 161 | 317 => 167 | 318 => 168 | 319 => 169 | 320 => 170 | 337 => 180 | 338 => 95 | n => n, fun | 3 => 3 | 9 => 9 | 2 => 2 | 4 => 4 | 171 => 182 | 0 => 0 | 53 => 38 | 37 => 123 | 5 => 5 | 173 => 184 | 212 => 200 | 51 => 124 | 20 => 20 | 213 => 201 | 46 => 116 | 232 => 222 | 233 => 166 | n => n, fun | 17 => 1 | 18 => 4 | 19 => 0 | n => n⟩
theorem Tryz.lays171 : Go.Proofs.Lays.n171 Tryz.prog Tryz.lays171_ren := {
  mixed := by kernel_rfl
  f129 := Tryz.func161.trans (congrArg some (by kernel_rfl))
  f171 := Tryz.func80.trans (congrArg some (by kernel_rfl))
  f243 := Tryz.func116.trans (congrArg some (by kernel_rfl))
  f246 := Tryz.func137.trans (congrArg some (by kernel_rfl))
  f283 := Tryz.func147.trans (congrArg some (by kernel_rfl))
  f284 := Tryz.func148.trans (congrArg some (by kernel_rfl))
  f285 := Tryz.func149.trans (congrArg some (by kernel_rfl))
  f286 := Tryz.func150.trans (congrArg some (by kernel_rfl))
  f317 := Tryz.func167.trans (congrArg some (by kernel_rfl))
  f318 := Tryz.func168.trans (congrArg some (by kernel_rfl))
  f319 := Tryz.func169.trans (congrArg some (by kernel_rfl))
  f320 := Tryz.func170.trans (congrArg some (by kernel_rfl))
  f337 := Tryz.func180.trans (congrArg some (by kernel_rfl))
  f338 := Tryz.func95.trans (congrArg some (by kernel_rfl))
  t0 := Tryz.underlying0
  a0 := Tryz.isAgg0
  z0 := Tryz.sizeOf0
  v0 := Tryz.zeroValue0
  t2 := Tryz.underlying2
  a2 := Tryz.isAgg2
  z2 := Tryz.sizeOf2
  v2 := Tryz.zeroValue2
  t3 := Tryz.underlying3
  a3 := Tryz.isAgg3
  z3 := Tryz.sizeOf3
  v3 := Tryz.zeroValue3
  t4 := Tryz.underlying4
  a4 := Tryz.isAgg4
  z4 := Tryz.sizeOf4
  v4 := Tryz.zeroValue4
  t5 := Tryz.underlying5
  a5 := Tryz.isAgg5
  z5 := Tryz.sizeOf5
  v5 := Tryz.zeroValue5
  t9 := Tryz.underlying9
  a9 := Tryz.isAgg9
  z9 := Tryz.sizeOf9
  v9 := Tryz.zeroValue9
  t20 := Tryz.underlying20
  a20 := Tryz.isAgg20
  z20 := Tryz.sizeOf20
  v20 := Tryz.zeroValue20
  t37 := Tryz.underlying123
  a37 := Tryz.isAgg123
  z37 := Tryz.sizeOf123
  v37 := Tryz.zeroValue123
  t46 := Tryz.underlying116
  a46 := Tryz.isAgg116
  z46 := Tryz.sizeOf116
  v46 := Tryz.zeroValue116
  t51 := Tryz.underlying124
  a51 := Tryz.isAgg124
  z51 := Tryz.sizeOf124
  v51 := Tryz.zeroValue124
  t53 := Tryz.underlying38
  a53 := Tryz.isAgg38
  z53 := Tryz.sizeOf38
  v53 := Tryz.zeroValue38
  t171 := Tryz.underlying182
  a171 := Tryz.isAgg182
  z171 := Tryz.sizeOf182
  v171 := Tryz.zeroValue182
  t173 := Tryz.underlying184
  a173 := Tryz.isAgg184
  z173 := Tryz.sizeOf184
  v173 := Tryz.zeroValue184
  t212 := Tryz.underlying200
  a212 := Tryz.isAgg200
  z212 := Tryz.sizeOf200
  v212 := Tryz.zeroValue200
  t213 := Tryz.underlying201
  a213 := Tryz.isAgg201
  z213 := Tryz.sizeOf201
  t232 := Tryz.underlying222
  a232 := Tryz.isAgg222
  z232 := Tryz.sizeOf222
  v232 := Tryz.zeroValue222
  t233 := Tryz.underlying166
  a233 := Tryz.isAgg166
  z233 := Tryz.sizeOf166
  v233 := Tryz.zeroValue166
  g17 := by kernel_rfl
  g18 := by kernel_rfl
  g19 := by kernel_rfl }
open Go.RowKit Go.Sort Go.Lib in
theorem Tryz.strconv_Itoa_small (i : Nat) (hi : i < 100) (w : World) :
    Calls Tryz.prog 80 #[.int .i64 i] w fun e w' => e = .returned (.string ⟨(Lib.decDigits i).toArray⟩) ∧ w' = w := Any.strconv_Itoa_small Tryz.lays171 i hi w
def Tryz.lays189_ren : Go.Shelf.Ren := ⟨fun | 189 => 122 | 125 => 142 | 257 => 141 | 128 => 160 | 129 => 161 | 294 => 151 | 295 => 152 | 296 => 153 | 297 => 154 | 298 => 155 | 299 => 156 | 216 => 157 | 300 => 158 | 301 => 159 | 328 => 171 | 329 => 172 | 330 => 173 | 331 => 174 | 332 => 175 | 215 => 176 | 343 => 181 | n => n, fun | 28 => 80 | 3 => 3 | 46 => 116 | 0 => 0 | 51 => 124 | 53 => 38 | 4 => 4 | 183 => 188 | 182 => 187 | 131 => 156 | 5 => 5 | 9 => 9 | 218 => 202 | 222 => 206 | 228 => 214 | 229 => 215 | n => n, fun | n => n⟩
theorem Tryz.lays189 : Go.Proofs.Lays.n189 Tryz.prog Tryz.lays189_ren := {
  mixed := by kernel_rfl
  f125 := Tryz.func142.trans (congrArg some (by kernel_rfl))
  f128 := Tryz.func160.trans (congrArg some (by kernel_rfl))
  f129 := Tryz.func161.trans (congrArg some (by kernel_rfl))
  f189 := Tryz.func122.trans (congrArg some (by kernel_rfl))
  f215 := Tryz.func176.trans (congrArg some (by kernel_rfl))
  f216 := Tryz.func157.trans (congrArg some (by kernel_rfl))
  f257 := Tryz.func141.trans (congrArg some (by kernel_rfl))
  f294 := Tryz.func151.trans (congrArg some (by kernel_rfl))
  f295 := Tryz.func152.trans (congrArg some (by kernel_rfl))
  f296 := Tryz.func153.trans (congrArg some (by kernel_rfl))
  f297 := Tryz.func154.trans (congrArg some (by kernel_rfl))
  f298 := Tryz.func155.trans (congrArg some (by kernel_rfl))
  f299 := Tryz.func156.trans (congrArg some (by kernel_rfl))
  f300 := Tryz.func158.trans (congrArg some (by kernel_rfl))
  f301 := Tryz.func159.trans (congrArg some (by kernel_rfl))
  f328 := Tryz.func171.trans (congrArg some (by kernel_rfl))
  f329 := Tryz.func172.trans (congrArg some (by kernel_rfl))
  f330 := Tryz.func173.trans (congrArg some (by kernel_rfl))
  f331 := Tryz.func174.trans (congrArg some (by kernel_rfl))
  f332 := Tryz.func175.trans (congrArg some (by kernel_rfl))
  f343 := Tryz.func181.trans (congrArg some (by kernel_rfl))
  t0 := Tryz.underlying0
  a0 := Tryz.isAgg0
  z0 := Tryz.sizeOf0
  v0 := Tryz.zeroValue0
  t3 := Tryz.underlying3
  a3 := Tryz.isAgg3
  z3 := Tryz.sizeOf3
  v3 := Tryz.zeroValue3
  t4 := Tryz.underlying4
  a4 := Tryz.isAgg4
  z4 := Tryz.sizeOf4
  v4 := Tryz.zeroValue4
  t5 := Tryz.underlying5
  a5 := Tryz.isAgg5
  z5 := Tryz.sizeOf5
  v5 := Tryz.zeroValue5
  t9 := Tryz.underlying9
  a9 := Tryz.isAgg9
  z9 := Tryz.sizeOf9
  v9 := Tryz.zeroValue9
  t28 := Tryz.underlying80
  a28 := Tryz.isAgg80
  z28 := Tryz.sizeOf80
  v28 := Tryz.zeroValue80
  t46 := Tryz.underlying116
  a46 := Tryz.isAgg116
  z46 := Tryz.sizeOf116
  v46 := Tryz.zeroValue116
  t51 := Tryz.underlying124
  a51 := Tryz.isAgg124
  z51 := Tryz.sizeOf124
  v51 := Tryz.zeroValue124
  t53 := Tryz.underlying38
  a53 := Tryz.isAgg38
  z53 := Tryz.sizeOf38
  v53 := Tryz.zeroValue38
  t131 := Tryz.underlying156
  a131 := Tryz.isAgg156
  z131 := Tryz.sizeOf156
  v131 := Tryz.zeroValue156
  t182 := Tryz.underlying187
  a182 := Tryz.isAgg187
  z182 := Tryz.sizeOf187
  v182 := Tryz.zeroValue187
  t183 := Tryz.underlying188
  a183 := Tryz.isAgg188
  z183 := Tryz.sizeOf188
  v183 := Tryz.zeroValue188
  t218 := Tryz.underlying202
  a218 := Tryz.isAgg202
  z218 := Tryz.sizeOf202
  v218 := Tryz.zeroValue202
  t222 := Tryz.underlying206
  a222 := Tryz.isAgg206
  z222 := Tryz.sizeOf206
  v222 := Tryz.zeroValue206
  t228 := Tryz.underlying214
  a228 := Tryz.isAgg214
  z228 := Tryz.sizeOf214
  v228 := Tryz.zeroValue214
  t229 := Tryz.underlying215
  a229 := Tryz.isAgg215
  z229 := Tryz.sizeOf215
  v229 := Tryz.zeroValue215 }
open Go.RowKit Go.Sort in
theorem Tryz.slices_Sort_int_none (p : Option Addr) (cap : Nat) (w : World) :
    Calls Tryz.prog 122 #[.slice p 0 cap] w fun e w' => e = .returned (.tuple #[]) ∧ w' = w := Any.slices_Sort_int_none Tryz.lays189 p cap w
def Tryz.laysSlM5_f122_ren : Go.Shelf.Ren := ⟨fun | 5 => 122 | 8 => 142 | 7 => 141 | 19 => 160 | 20 => 161 | 10 => 151 | 11 => 152 | 12 => 153 | 13 => 154 | 14 => 155 | 15 => 156 | 16 => 157 | 17 => 158 | 18 => 159 | 30 => 171 | 31 => 172 | 32 => 173 | 33 => 174 | 34 => 175 | 35 => 176 | 40 => 181 | n => n, fun | 23 => 80 | 25 => 3 | 3 => 3 | 32 => 116 | 22 => 80 | 0 => 0 | 44 => 124 | 46 => 38 | 4 => 4 | 36 => 188 | 35 => 187 | 41 => 156 | 5 => 5 | 9 => 9 | 53 => 202 | 57 => 206 | 63 => 214 | 64 => 215 | n => n, fun | n => n⟩
theorem Tryz.laysSlM5_f122 : Go.Proofs.SlLaysM.n5 Tryz.prog Tryz.laysSlM5_f122_ren := {
  mixed := by kernel_rfl
  f5 := ⟨Tryz.f122.name, by decide, Tryz.func122.trans (congrArg some (by kernel_rfl))⟩
  f7 := ⟨Tryz.f141.name, by decide, Tryz.func141.trans (congrArg some (by kernel_rfl))⟩
  f8 := Tryz.func142.trans (congrArg some (by kernel_rfl))
  f10 := ⟨Tryz.f151.name, by decide, Tryz.func151.trans (congrArg some (by kernel_rfl))⟩
  f11 := ⟨Tryz.f152.name, by decide, Tryz.func152.trans (congrArg some (by kernel_rfl))⟩
  f12 := ⟨Tryz.f153.name, by decide, Tryz.func153.trans (congrArg some (by kernel_rfl))⟩
  f13 := ⟨Tryz.f154.name, by decide, Tryz.func154.trans (congrArg some (by kernel_rfl))⟩
  f14 := ⟨Tryz.f155.name, by decide, Tryz.func155.trans (congrArg some (by kernel_rfl))⟩
  f15 := ⟨Tryz.f156.name, by decide, Tryz.func156.trans (congrArg some (by kernel_rfl))⟩
  f16 := ⟨Tryz.f157.name, by decide, Tryz.func157.trans (congrArg some (by kernel_rfl))⟩
  f17 := ⟨Tryz.f158.name, by decide, Tryz.func158.trans (congrArg some (by kernel_rfl))⟩
  f18 := ⟨Tryz.f159.name, by decide, Tryz.func159.trans (congrArg some (by kernel_rfl))⟩
  f19 := Tryz.func160.trans (congrArg some (by kernel_rfl))
  f20 := Tryz.func161.trans (congrArg some (by kernel_rfl))
  f30 := ⟨Tryz.f171.name, by decide, Tryz.func171.trans (congrArg some (by kernel_rfl))⟩
  f31 := Tryz.func172.trans (congrArg some (by kernel_rfl))
  f32 := Tryz.func173.trans (congrArg some (by kernel_rfl))
  f33 := ⟨Tryz.f174.name, by decide, Tryz.func174.trans (congrArg some (by kernel_rfl))⟩
  f34 := ⟨Tryz.f175.name, by decide, Tryz.func175.trans (congrArg some (by kernel_rfl))⟩
  f35 := ⟨Tryz.f176.name, by decide, Tryz.func176.trans (congrArg some (by kernel_rfl))⟩
  f40 := ⟨Tryz.f181.name, by decide, Tryz.func181.trans (congrArg some (by kernel_rfl))⟩
  t0 := Tryz.underlying0
  a0 := Tryz.isAgg0
  z0 := Tryz.sizeOf0
  v0 := Tryz.zeroValue0
  t3 := Tryz.underlying3
  a3 := Tryz.isAgg3
  z3 := Tryz.sizeOf3
  v3 := Tryz.zeroValue3
  t4 := Tryz.underlying4
  a4 := Tryz.isAgg4
  z4 := Tryz.sizeOf4
  v4 := Tryz.zeroValue4
  t5 := Tryz.underlying5
  a5 := Tryz.isAgg5
  z5 := Tryz.sizeOf5
  v5 := Tryz.zeroValue5
  t9 := Tryz.underlying9
  a9 := Tryz.isAgg9
  z9 := Tryz.sizeOf9
  v9 := Tryz.zeroValue9
  t22 := Tryz.underlying80
  a22 := Tryz.isAgg80
  z22 := Tryz.sizeOf80
  v22 := Tryz.zeroValue80
  t23 := Tryz.underlying80
  a23 := Tryz.isAgg80
  z23 := Tryz.sizeOf80
  v23 := Tryz.zeroValue80
  t25 := Tryz.underlying3
  a25 := Tryz.isAgg3
  z25 := Tryz.sizeOf3
  v25 := Tryz.zeroValue3
  t32 := Tryz.underlying116
  a32 := Tryz.isAgg116
  z32 := Tryz.sizeOf116
  v32 := Tryz.zeroValue116
  t35 := Tryz.underlying187
  a35 := Tryz.isAgg187
  z35 := Tryz.sizeOf187
  v35 := Tryz.zeroValue187
  t36 := Tryz.underlying188
  a36 := Tryz.isAgg188
  z36 := Tryz.sizeOf188
  v36 := Tryz.zeroValue188
  t41 := Tryz.underlying156
  a41 := Tryz.isAgg156
  z41 := Tryz.sizeOf156
  v41 := Tryz.zeroValue156
  t44 := Tryz.underlying124
  a44 := Tryz.isAgg124
  z44 := Tryz.sizeOf124
  v44 := Tryz.zeroValue124
  t46 := Tryz.underlying38
  a46 := Tryz.isAgg38
  z46 := Tryz.sizeOf38
  v46 := Tryz.zeroValue38
  t53 := Tryz.underlying202
  a53 := Tryz.isAgg202
  z53 := Tryz.sizeOf202
  v53 := Tryz.zeroValue202
  t57 := Tryz.underlying206
  a57 := Tryz.isAgg206
  z57 := Tryz.sizeOf206
  v57 := Tryz.zeroValue206
  t63 := Tryz.underlying214
  a63 := Tryz.isAgg214
  z63 := Tryz.sizeOf214
  v63 := Tryz.zeroValue214
  t64 := Tryz.underlying215
  a64 := Tryz.isAgg215
  z64 := Tryz.sizeOf215
  v64 := Tryz.zeroValue215 }
open Go.Sort Go.RowKit in
theorem Tryz.slices_Sort_int (blk off cap : Nat) (zs : List Int) (w : World) (hH : Holds (Value.int .i64) w blk off zs.toArray) (hblk : blk < w.heap.size) (hsz : zs.length < 4611686018427387904) :
    Calls Tryz.prog 122 #[.slice (some ⟨blk, off, none⟩) zs.length cap] w fun e w' =>
      e = .returned (.tuple #[]) ∧ ∃ n os, w' = grow (putRow (Value.int .i64) (Sort.ahead w n) blk off (zs.mergeSort fun x y => decide (x ≤ y)).toArray) os := AnyM.slices_Sort_int Tryz.laysSlM5_f122 blk off cap zs w hH hblk hsz
end Go.Proofs
namespace Go.Proofs.YtdiciemlbhkilaaGreatDoor
open Go Go.Cx Go.RowKit
set_option linter.unusedVariables false
set_option linter.unusedSimpArgs false
set_option maxHeartbeats 4000000
attribute [local irreducible] J JC thenK blockK loopK roundK drawK retK QW Qt pel List.set Calls
theorem itoa_small (i : Nat) (hi : i < 100) (w : World) : Calls Tryz.prog 80 #[.int .i64 (i : Int)] w fun e w' => e = .returned (.string (S (Lib.decDigits i))) ∧ Below w.heap.size w w' :=
  (Tryz.strconv_Itoa_small i hi w).mono fun _ _ ⟨h1, h2⟩ => ⟨h1, h2 ▸ Below.refl _ _⟩
theorem atoi_any (l : List UInt8) (n : Int) (hl : l.length ≤ 18) (h : Lib.atoi l = some n) (w : World) : Calls Tryz.prog 135 #[.string (S l)] w fun e w' => e = .returned (.tuple #[.int .i64 n, .nilIface]) ∧ Below w.heap.size w w' :=
  (Tryz.strconv_Atoi (S l) n hl h w).mono fun _ _ ⟨h1, _, h2⟩ => ⟨h1, h2 ▸ Lib.bytesWorld_below w 5 _⟩
theorem eItoa : Entr Tryz.prog 80 := Entr.of Tryz.func80 rfl rfl
theorem eAtoi : Entr Tryz.prog 135 := Entr.of Tryz.func135 rfl rfl
def rdr (b : Nat) (sl : Value) (l : List UInt8) : Heap := [(b, .cells ⟨[sl, .string (S l)]⟩ 119 (0, 0))]
def eatB (l : List UInt8) (c : UInt8) : Bool := match l with | [] => false | x :: _ => x == c
def eatL (l : List UInt8) (c : UInt8) : List UInt8 := if eatB l c then l.tail else l
theorem eat_any {w0 w : World} {R : Heap} {L : List Heap} {b : Nat} {a : Option Addr} {len cap : Nat} (l : List UInt8) (c : UInt8) (hl : l.length ≤ 1048576) (hw : H w0 R (rdr b (.slice a len cap) l :: L) w) :
    Calls Tryz.prog 113 #[.pointer (some ⟨b, 0, none⟩), .int .u8 (c.toNat : Int)] w fun e w' => ∃ v L', e = .returned v ∧ H w0 R L' w' ∧ (v = .bool (eatB l c) ∧ L' = rdr b (.slice a len cap) (eatL l c) :: L) := by
  unfold eatL eatB
  cases l with
  | nil =>
    simp only
    refine calls_in Tryz.func113 Tryz.ntmps113 rfl rfl (hw) ?_
    unfold rdr
    repeat' first
      | (refine J.isJ ?_; (first | (first | (refine J.o 0 ?_; refine J.ev' hΓ ?_) | refine J.nil ?_ | refine J.kd ?_ | (refine J.o 4 ?_; first | refine J.e0 hΓ ?_) | (refine J.o 3 ?_; first | refine J.ev' hΓ ?_) | (refine J.o 5 ?_; first | refine J.t0 hΓ ?_) | (refine J.o 10 ?_; first | refine J.ls hΓ ?_ | refine J.ev' hΓ ?_) | (refine J.o 11 ?_; first | refine J.ev' hΓ ?_) | (refine J.o 12 ?_; refine J.ix hΓ ?_) | (refine J.o 13 ?_; first | refine J.sL hΓ ?_))))
      | (first | refine JC.seq ?_ | refine JC.region ?_ | refine JC.ret ?_ | refine JC.skip ?_ | refine thenK.nn ?_ | refine thenK.r ?_ | refine JC.condT rfl ?_ | (refine JC.cond rfl (fun hc => ?_) (fun hc => ?_) <;> ((try simp only [decide_eq_true_eq, decide_eq_false_iff_not, beq_iff_eq, beq_eq_false_iff_ne, bne_iff_ne, bne_eq_false_iff_eq, Bool.not_eq_true', Bool.not_eq_false', Bool.not_eq_true, Bool.not_eq_false] at hc) <;> first | (first | (exact absurd rfl hc) | (exfalso; omega) | (exact absurd (hc.symm.trans (by assumption : _ = false)) (by decide)) | (exact absurd (hc.symm.trans (by assumption : _ = true)) (by decide))) | skip)))
      | fail
    all_goals first | (exfalso; simp_all; done) | exact ret1f rfl rfl rfl (fun w1 hw => ⟨_, _, rfl, hw, rfl, rfl⟩)
  | cons x l =>
    have hgd : (x :: l).getD 0 0 = x := rfl
    have hll : ((x :: l).length : Int) = l.length + 1 := by simp
    by_cases hx : x = c
    · subst hx
      simp only [beq_self_eq_true, if_true, List.tail_cons]
      refine calls_in Tryz.func113 Tryz.ntmps113 rfl rfl (hw) ?_
      unfold rdr
      repeat' first
        | (refine J.isJ ?_; (first | (first | (refine J.o 0 ?_; refine J.ev' hΓ ?_) | refine J.nil ?_ | refine J.kd ?_ | (refine J.o 4 ?_; first | refine J.e0 hΓ ?_) | (refine J.o 3 ?_; first | refine J.ev' hΓ ?_) | (refine J.o 5 ?_; first | refine J.t0 hΓ ?_) | (refine J.o 10 ?_; first | refine J.ls hΓ ?_ | refine J.ev' hΓ ?_) | (refine J.o 11 ?_; first | refine J.ev' hΓ ?_) | (refine J.o 12 ?_; refine J.ix hΓ ?_) | (refine J.o 13 ?_; first | refine J.sL hΓ ?_))))
        | (first | refine JC.seq ?_ | refine JC.region ?_ | refine JC.ret ?_ | refine JC.skip ?_ | refine thenK.nn ?_ | refine thenK.r ?_ | refine JC.condT rfl ?_ | (refine JC.cond rfl (fun hc => ?_) (fun hc => ?_) <;> ((try simp only [decide_eq_true_eq, decide_eq_false_iff_not, beq_iff_eq, beq_eq_false_iff_ne, bne_iff_ne, bne_eq_false_iff_eq, Bool.not_eq_true', Bool.not_eq_false', Bool.not_eq_true, Bool.not_eq_false] at hc) <;> first | (first | (exact absurd rfl hc) | (exfalso; omega) | (exact absurd (hc.symm.trans (by assumption : _ = false)) (by decide)) | (exact absurd (hc.symm.trans (by assumption : _ = true)) (by decide))) | skip)))
        | fail
      all_goals first | exact ret1f rfl rfl rfl (fun w1 hw => ⟨_, _, rfl, hw, rfl, rfl⟩) | (exfalso; simp_all; done) | (exfalso; simp_all; omega)
    · have hb : (x == c) = false := by simpa using hx
      have hn : x.toNat ≠ c.toNat := fun h => hx (UInt8.toNat_inj.1 h)
      simp only [hb]
      refine calls_in Tryz.func113 Tryz.ntmps113 rfl rfl (hw) ?_
      unfold rdr
      repeat' first
        | (refine J.isJ ?_; (first | (first | (refine J.o 0 ?_; refine J.ev' hΓ ?_) | refine J.nil ?_ | refine J.kd ?_ | (refine J.o 4 ?_; first | refine J.e0 hΓ ?_) | (refine J.o 3 ?_; first | refine J.ev' hΓ ?_) | (refine J.o 5 ?_; first | refine J.t0 hΓ ?_) | (refine J.o 10 ?_; first | refine J.ls hΓ ?_ | refine J.ev' hΓ ?_) | (refine J.o 11 ?_; first | refine J.ev' hΓ ?_) | (refine J.o 12 ?_; refine J.ix hΓ ?_) | (refine J.o 13 ?_; first | refine J.sL hΓ ?_))))
        | (first | refine JC.seq ?_ | refine JC.region ?_ | refine JC.ret ?_ | refine JC.skip ?_ | refine thenK.nn ?_ | refine thenK.r ?_ | refine JC.condT rfl ?_ | (refine JC.cond rfl (fun hc => ?_) (fun hc => ?_) <;> ((try simp only [decide_eq_true_eq, decide_eq_false_iff_not, beq_iff_eq, beq_eq_false_iff_ne, bne_iff_ne, bne_eq_false_iff_eq, Bool.not_eq_true', Bool.not_eq_false', Bool.not_eq_true, Bool.not_eq_false] at hc) <;> first | (first | (exact absurd rfl hc) | (exfalso; omega) | (exact absurd (hc.symm.trans (by assumption : _ = false)) (by decide)) | (exact absurd (hc.symm.trans (by assumption : _ = true)) (by decide))) | skip)))
        | fail
      all_goals first | exact ret1f rfl rfl rfl (fun w1 hw => ⟨_, _, rfl, hw, rfl, rfl⟩) | (exfalso; simp_all; done) | (exfalso; simp_all; omega)
def dig (x : UInt8) : Bool := decide (48 ≤ x.toNat ∧ x.toNat ≤ 57)
def cntD : Nat → List UInt8 → Nat
  | 0, _ => 0
  | _, [] => 0
  | f + 1, x :: l => if dig x then cntD f l + 1 else 0
def numS (l : List UInt8) : Option (Int × List UInt8) :=
  let i := cntD 6 l
  if i = 0 ∨ 5 < i ∨ (1 < i ∧ (l.getD 0 0).toNat = 48) then none else some ((Lib.atoi (l.take i)).getD 0, l.drop i)
theorem cntD_le : ∀ (f : Nat) (l : List UInt8), cntD f l ≤ f ∧ cntD f l ≤ l.length
  | 0, l => by cases l <;> simp [cntD]
  | f + 1, [] => by simp [cntD]
  | f + 1, x :: l => by
    have := cntD_le f l
    rw [cntD]
    split
    · simp only [List.length_cons]; omega
    · simp
theorem decFrom_dig : ∀ (l : List UInt8) (acc : Nat), (∀ x, x ∈ l → dig x = true) → ∃ n, Lib.decFrom acc l = some n ∧ n + 1 ≤ (acc + 1) * 10 ^ l.length
  | [], acc, _ => ⟨acc, rfl, by simp⟩
  | x :: l, acc, h => by
    have hx := h x (List.mem_cons_self ..)
    unfold dig at hx
    have hx' := of_decide_eq_true hx
    obtain ⟨n, hn, hb⟩ := decFrom_dig l (acc * 10 + (x.toNat - 48)) (fun y hy => h y (List.mem_cons_of_mem _ hy))
    refine ⟨n, ?_, ?_⟩
    · unfold Lib.decFrom Lib.digitVal
      rw [if_pos hx']
      exact hn
    · rw [List.length_cons, Nat.pow_succ]
      have h1 : acc * 10 + (x.toNat - 48) + 1 ≤ (acc + 1) * 10 := by omega
      have h2 : (acc * 10 + (x.toNat - 48) + 1) * 10 ^ l.length ≤ (acc + 1) * 10 * 10 ^ l.length := Nat.mul_le_mul_right _ h1
      rw [Nat.mul_assoc, Nat.mul_comm 10] at h2
      omega
theorem cntD_dig : ∀ (f : Nat) (l : List UInt8) (x : UInt8), x ∈ l.take (cntD f l) → dig x = true
  | 0, l, x, h => by cases l <;> simp [cntD] at h
  | f + 1, [], x, h => by simp at h
  | f + 1, y :: l, x, h => by
    rw [cntD] at h
    split at h
    case isTrue hd =>
      rw [List.take_succ_cons] at h
      rcases List.mem_cons.1 h with rfl | h
      · exact hd
      · exact cntD_dig f l x h
    case isFalse => simp at h
theorem atoi_dig (l : List UInt8) (h0 : l ≠ []) (h : ∀ x, x ∈ l → dig x = true) : ∃ n : Nat, Lib.atoi l = some (n : Int) ∧ n + 1 ≤ 10 ^ l.length := by
  cases l with
  | nil => exact absurd rfl h0
  | cons x l =>
    obtain ⟨n, hn, hb⟩ := decFrom_dig (x :: l) 0 h
    have hx := of_decide_eq_true (h x (List.mem_cons_self ..))
    refine ⟨n, ?_, by simpa using hb⟩
    have h1 : (x == 45) = false := by
      cases hc : x == 45 with
      | false => rfl
      | true => rw [beq_iff_eq.1 hc] at hx; exact absurd hx (by decide)
    have h2 : (x == 43) = false := by
      cases hc : x == 43 with
      | false => rfl
      | true => rw [beq_iff_eq.1 hc] at hx; exact absurd hx (by decide)
    unfold Lib.atoi
    simp only [h1, h2, Bool.false_eq_true, if_false]
    unfold Lib.decNat
    rw [List.isEmpty_cons, if_neg (by decide), hn]
    rfl
theorem number_any {w0 w : World} {R : Heap} {L : List Heap} {b : Nat} {a : Option Addr} {len cap : Nat} (l : List UInt8) (hl : l.length ≤ 1048576) (hw : H w0 R (rdr b (.slice a len cap) l :: L) w) :
    Calls Tryz.prog 114 #[.pointer (some ⟨b, 0, none⟩)] w fun e w' => ∃ v L', e = .returned v ∧ H w0 R L' w' ∧
      (v = (match numS l with | none => .tuple #[.int .i64 0, .bool false] | some p => .tuple #[.int .i64 p.1, .bool true]) ∧ L' = rdr b (.slice a len cap) (match numS l with | none => l | some p => p.2) :: L) := by
  have hcl := cntD_le 6 l
  have hcl6 := hcl.1
  refine calls_in Tryz.func114 Tryz.ntmps114 rfl rfl (hw) ?_
  unfold rdr
  repeat' first
    | (refine J.isJ ?_; (first | (first | (refine J.o 0 ?_; refine J.ev' hΓ ?_) | refine J.nil ?_ | refine J.kd ?_ | (refine J.o 4 ?_; first | refine J.e0 hΓ ?_) | (refine J.o 3 ?_; first | refine J.ev' hΓ ?_) | (refine J.o 1 ?_; first | refine J.ad ?_) | (refine J.o 5 ?_; first | refine J.t0 hΓ ?_) | (refine J.o 10 ?_; first | refine J.ls hΓ ?_ | refine J.ev' hΓ ?_) | (refine J.o 11 ?_; first | refine J.ev' hΓ ?_) | (refine J.o 12 ?_; refine J.ix hΓ ?_) | (refine J.o 13 ?_; first | refine J.sL hΓ ?_ | refine J.sH hΓ ?_)) | ((fail_if_success refine J.wt ?_); refine J.gc rfl rfl (fun hc => ?_) (fun hc => ?_) <;> ((try simp only [decide_eq_true_eq, decide_eq_false_iff_not, beq_iff_eq, beq_eq_false_iff_ne, bne_iff_ne, bne_eq_false_iff_eq, Bool.not_eq_true', Bool.not_eq_false', Bool.not_eq_true, Bool.not_eq_false] at hc) <;> first | (first | (exact absurd rfl hc) | (exfalso; omega) | (exact absurd (hc.symm.trans (by assumption : _ = false)) (by decide)) | (exact absurd (hc.symm.trans (by assumption : _ = true)) (by decide))) | skip))))
    | (first | refine JC.seq ?_ | refine JC.region ?_ | refine JC.block ?_ | refine JC.ret ?_ | refine JC.exit ?_ | refine JC.skip ?_ | refine thenK.nn ?_ | refine thenK.r ?_ | refine thenK.x ?_ | refine blockK.nn ?_ | refine blockK.hit rfl ?_ | refine JC.condT rfl ?_ | refine JC.condF rfl ?_ | (refine JC.cond rfl (fun hc => ?_) (fun hc => ?_) <;> ((try simp only [decide_eq_true_eq, decide_eq_false_iff_not, beq_iff_eq, beq_eq_false_iff_ne, bne_iff_ne, bne_eq_false_iff_eq, Bool.not_eq_true', Bool.not_eq_false', Bool.not_eq_true, Bool.not_eq_false] at hc) <;> first | (first | (exact absurd rfl hc) | (exfalso; omega) | (exact absurd (hc.symm.trans (by assumption : _ = false)) (by decide)) | (exact absurd (hc.symm.trans (by assumption : _ = true)) (by decide))) | skip)) | refine loopK.x ?_)
    | fail
  refine JC.loop (fun i => i == 4 || Nat.ble 7 i) (fun m g L' => ∃ (k : Nat), g 4 = .int .i64 (k : Int) ∧ k + m = 6 ∧ k ≤ l.length ∧ L' = _ ∧ k + cntD m (l.drop k) = cntD 6 l) 6 ⟨0, rfl, by omega, by omega, rfl, by simp⟩ ?_
  rintro m g L' ⟨k, e4, hkm, hkl, rfl, hcnt⟩
  refine JC.pin 4 e4 ?_
  clear e4
  by_cases hgo : k < l.length ∧ 0 < m ∧ dig (l.getD k 0) = true
  · obtain ⟨hk, hm, hd⟩ := hgo
    have hd' := of_decide_eq_true hd
    obtain ⟨m, rfl⟩ : ∃ m', m = m' + 1 := ⟨m - 1, by omega⟩
    have hdr : l.drop k = l.getD k 0 :: l.drop (k + 1) := drop_one l k hk
    rw [hdr, cntD, if_pos hd] at hcnt
    repeat' first
      | (refine J.isJ ?_; (first | (first | (refine J.o 0 ?_; refine J.ev' hΓ ?_) | refine J.nil ?_ | refine J.kd ?_ | (refine J.o 4 ?_; first | refine J.e0 hΓ ?_) | (refine J.o 3 ?_; first | refine J.ev' hΓ ?_) | (refine J.o 1 ?_; first | refine J.ad ?_) | (refine J.o 5 ?_; first | refine J.t0 hΓ ?_) | (refine J.o 10 ?_; first | refine J.ls hΓ ?_ | refine J.ev' hΓ ?_) | (refine J.o 11 ?_; first | refine J.ev' hΓ ?_) | (refine J.o 12 ?_; refine J.ix hΓ ?_) | (refine J.o 13 ?_; first | refine J.sL hΓ ?_ | refine J.sH hΓ ?_)) | ((fail_if_success refine J.wt ?_); refine J.gc rfl rfl (fun hc => ?_) (fun hc => ?_) <;> ((try simp only [decide_eq_true_eq, decide_eq_false_iff_not, beq_iff_eq, beq_eq_false_iff_ne, bne_iff_ne, bne_eq_false_iff_eq, Bool.not_eq_true', Bool.not_eq_false', Bool.not_eq_true, Bool.not_eq_false] at hc) <;> first | (first | (exact absurd rfl hc) | (exfalso; omega) | (exact absurd (hc.symm.trans (by assumption : _ = false)) (by decide)) | (exact absurd (hc.symm.trans (by assumption : _ = true)) (by decide))) | skip))))
      | (first | refine JC.seq ?_ | refine JC.region ?_ | refine JC.block ?_ | refine JC.ret ?_ | refine JC.exit ?_ | refine JC.skip ?_ | refine thenK.nn ?_ | refine thenK.r ?_ | refine thenK.x ?_ | refine blockK.nn ?_ | refine blockK.hit rfl ?_ | refine JC.condT rfl ?_ | refine JC.condF rfl ?_ | (refine JC.cond rfl (fun hc => ?_) (fun hc => ?_) <;> ((try simp only [decide_eq_true_eq, decide_eq_false_iff_not, beq_iff_eq, beq_eq_false_iff_ne, bne_iff_ne, bne_eq_false_iff_eq, Bool.not_eq_true', Bool.not_eq_false', Bool.not_eq_true, Bool.not_eq_false] at hc) <;> first | (first | (exact absurd rfl hc) | (exfalso; omega) | (exact absurd (hc.symm.trans (by assumption : _ = false)) (by decide)) | (exact absurd (hc.symm.trans (by assumption : _ = true)) (by decide))) | skip)) | refine loopK.x ?_)
      | fail
    all_goals first | (exfalso; omega) | skip
    all_goals refine loopK.nn m (by omega) (by repeat (first | refine Ag.upd rfl ?_ | exact Ag.hv)) ⟨k + 1, ?_, by omega, by omega, rfl, by omega⟩
    all_goals (show Value.int .i64 _ = _; congr 1)
  · have hst : ¬ (k < l.length ∧ 0 < m ∧ 48 ≤ (l.getD k 0).toNat ∧ (l.getD k 0).toNat ≤ 57) := fun h => hgo ⟨h.1, h.2.1, decide_eq_true h.2.2⟩
    have hk : cntD 6 l = k := by
      have h0 : cntD m (l.drop k) = 0 := by
        cases m with
        | zero => cases l.drop k <;> rfl
        | succ m =>
          by_cases hk : k < l.length
          · have hdr : l.drop k = l.getD k 0 :: l.drop (k + 1) := drop_one l k hk
            rw [hdr, cntD, if_neg (fun h => hgo ⟨hk, by omega, h⟩)]
          · rw [List.drop_eq_nil_of_le (by omega)]; rfl
      omega
    have hj : (l.getD 0 0).toNat < 256 := UInt8.toNat_lt _
    clear hgo hcnt
    unfold numS
    simp only [hk]
    by_cases hbad : k = 0 ∨ 5 < k ∨ (1 < k ∧ (l.getD 0 0).toNat = 48)
    · rw [if_pos hbad]
      repeat' first
        | (refine J.isJ ?_; (first | (first | (refine J.o 0 ?_; refine J.ev' hΓ ?_) | refine J.nil ?_ | refine J.kd ?_ | (refine J.o 4 ?_; first | refine J.e0 hΓ ?_) | (refine J.o 3 ?_; first | refine J.ev' hΓ ?_) | (refine J.o 1 ?_; first | refine J.ad ?_) | (refine J.o 5 ?_; first | refine J.t0 hΓ ?_) | (refine J.o 10 ?_; first | refine J.ls hΓ ?_ | refine J.ev' hΓ ?_) | (refine J.o 11 ?_; first | refine J.ev' hΓ ?_) | (refine J.o 12 ?_; refine J.ix hΓ ?_) | (refine J.o 13 ?_; first | refine J.sL hΓ ?_ | refine J.sH hΓ ?_)) | ((fail_if_success refine J.wt ?_); refine J.gc rfl rfl (fun hc => ?_) (fun hc => ?_) <;> ((try simp only [decide_eq_true_eq, decide_eq_false_iff_not, beq_iff_eq, beq_eq_false_iff_ne, bne_iff_ne, bne_eq_false_iff_eq, Bool.not_eq_true', Bool.not_eq_false', Bool.not_eq_true, Bool.not_eq_false] at hc) <;> first | (first | (exact absurd rfl hc) | (exfalso; omega) | (exact absurd (hc.symm.trans (by assumption : _ = false)) (by decide)) | (exact absurd (hc.symm.trans (by assumption : _ = true)) (by decide))) | skip))))
        | (first | refine JC.seq ?_ | refine JC.region ?_ | refine JC.block ?_ | refine JC.ret ?_ | refine JC.exit ?_ | refine JC.skip ?_ | refine thenK.nn ?_ | refine thenK.r ?_ | refine thenK.x ?_ | refine blockK.nn ?_ | refine blockK.hit rfl ?_ | refine JC.condT rfl ?_ | refine JC.condF rfl ?_ | (refine JC.cond rfl (fun hc => ?_) (fun hc => ?_) <;> ((try simp only [decide_eq_true_eq, decide_eq_false_iff_not, beq_iff_eq, beq_eq_false_iff_ne, bne_iff_ne, bne_eq_false_iff_eq, Bool.not_eq_true', Bool.not_eq_false', Bool.not_eq_true, Bool.not_eq_false] at hc) <;> first | (first | (exact absurd rfl hc) | (exfalso; omega) | (exact absurd (hc.symm.trans (by assumption : _ = false)) (by decide)) | (exact absurd (hc.symm.trans (by assumption : _ = true)) (by decide))) | skip)) | refine loopK.x ?_)
        | fail
      all_goals first | (exfalso; omega) | exact ret2f rfl rfl rfl rfl rfl (fun w1 hw => ⟨_, _, rfl, hw, rfl, rfl⟩)
    · rw [if_neg hbad]
      obtain ⟨n, hn, hb⟩ := atoi_dig (l.take k) (by intro h; have := congrArg List.length h; rw [List.length_take, List.length_nil] at this; omega) (fun x hx => cntD_dig 6 l x (hk ▸ hx))
      have cA := fun w => atoi_any (l.take k) n (by rw [List.length_take]; omega) hn w
      rw [hn]
      repeat' first
        | (refine J.isJ ?_; first | (first | (refine J.o 0 ?_; refine J.ev' hΓ ?_) | refine J.nil ?_ | refine J.kd ?_ | (refine J.o 4 ?_; first | refine J.e0 hΓ ?_) | (refine J.o 3 ?_; first | refine J.ev' hΓ ?_) | (refine J.o 1 ?_; first | refine J.ad ?_) | (refine J.o 5 ?_; first | refine J.t0 hΓ ?_) | (refine J.o 10 ?_; first | refine J.ls hΓ ?_ | refine J.ev' hΓ ?_) | (refine J.o 11 ?_; first | refine J.ev' hΓ ?_) | (refine J.o 12 ?_; refine J.ix hΓ ?_) | (refine J.o 13 ?_; first | refine J.sL hΓ ?_ | refine J.sH hΓ ?_)) | ((refine J.fn 135 rfl ?_; refine J.call0 eAtoi rfl rfl (fun w hw => cA w) ?_)) | ((fail_if_success refine J.wt ?_); refine J.gc rfl rfl (fun hc => ?_) (fun hc => ?_) <;> ((try simp only [decide_eq_true_eq, decide_eq_false_iff_not, beq_iff_eq, beq_eq_false_iff_ne, bne_iff_ne, bne_eq_false_iff_eq, Bool.not_eq_true', Bool.not_eq_false', Bool.not_eq_true, Bool.not_eq_false] at hc) <;> first | (first | (exact absurd rfl hc) | (exfalso; omega) | (exact absurd (hc.symm.trans (by assumption : _ = false)) (by decide)) | (exact absurd (hc.symm.trans (by assumption : _ = true)) (by decide))) | skip)))
        | (first | refine JC.seq ?_ | refine JC.region ?_ | refine JC.block ?_ | refine JC.ret ?_ | refine JC.exit ?_ | refine JC.skip ?_ | refine thenK.nn ?_ | refine thenK.r ?_ | refine thenK.x ?_ | refine blockK.nn ?_ | refine blockK.hit rfl ?_ | refine JC.condT rfl ?_ | refine JC.condF rfl ?_ | (refine JC.cond rfl (fun hc => ?_) (fun hc => ?_) <;> ((try simp only [decide_eq_true_eq, decide_eq_false_iff_not, beq_iff_eq, beq_eq_false_iff_ne, bne_iff_ne, bne_eq_false_iff_eq, Bool.not_eq_true', Bool.not_eq_false', Bool.not_eq_true, Bool.not_eq_false] at hc) <;> first | (first | (exact absurd rfl hc) | (exfalso; omega) | (exact absurd (hc.symm.trans (by assumption : _ = false)) (by decide)) | (exact absurd (hc.symm.trans (by assumption : _ = true)) (by decide))) | skip)) | refine loopK.x ?_)
        | fail
      all_goals first | (exfalso; omega) | exact ret2f rfl rfl rfl rfl rfl (fun w1 hw => ⟨_, _, rfl, hw, rfl, rfl⟩)
end Go.Proofs.YtdiciemlbhkilaaGreatDoor
namespace Go.Proofs.YtdiciemlbhkilaaGreatDoor
open Go Go.Cx Go.RowKit
set_option linter.unusedVariables false
set_option linter.unusedSimpArgs false
set_option maxHeartbeats 4000000
attribute [local irreducible] J JC thenK blockK loopK roundK drawK retK QW Qt pel List.set Calls
theorem eatL_le (l : List UInt8) (c : UInt8) : (eatL l c).length ≤ l.length := by
  unfold eatL
  split <;> simp
theorem eatL_lt {l : List UInt8} {c : UInt8} (h : eatB l c = true) : (eatL l c).length + 1 = l.length := by
  unfold eatL
  rw [if_pos h]
  cases l with
  | nil => cases h
  | cons x l => simp
theorem numS_le {l : List UInt8} {p : Int × List UInt8} (h : numS l = some p) : p.2.length ≤ l.length := by
  unfold numS at h
  simp only at h
  split at h
  · cases h
  · cases h
    simp
def nodeP : Nat → List Nd → List UInt8 → Bool × List Nd × List UInt8
  | 0, ts, l => (false, ts, l)
  | f + 1, ts, l =>
    if eatB l 43 then (true, ts ++ [⟨0, 0, 0, true⟩], eatL l 43)
    else if eatB (eatL l 43) 45 then (true, ts ++ [⟨0, 0, 0, false⟩], eatL (eatL l 43) 45)
    else if eatB (eatL (eatL l 43) 45) 40 = false then (false, ts ++ [⟨0, 0, 0, false⟩], eatL (eatL (eatL l 43) 45) 40)
    else match numS (eatL (eatL (eatL l 43) 45) 40) with
      | none => (false, ts ++ [⟨0, 0, 0, false⟩], eatL (eatL (eatL l 43) 45) 40)
      | some p =>
        if eatB p.2 32 = false then (false, ts ++ [⟨0, 0, 0, false⟩], eatL p.2 32)
        else
          let r := nodeP f (ts ++ [⟨0, 0, 0, false⟩]) (eatL p.2 32)
          if r.1 = false then (false, r.2.1, r.2.2)
          else if eatB r.2.2 32 = false then (false, r.2.1, eatL r.2.2 32)
          else
            let r2 := nodeP f r.2.1 (eatL r.2.2 32)
            if r2.1 = false then (false, r2.2.1, r2.2.2)
            else if eatB r2.2.2 41 = false then (false, r2.2.1, eatL r2.2.2 41)
            else (true, r2.2.1.set ts.length ⟨p.1, (ts ++ [(⟨0, 0, 0, false⟩ : Nd)]).length, r.2.1.length, false⟩, eatL r2.2.2 41)
theorem nodeP_len : ∀ (f : Nat) (ts : List Nd) (l : List UInt8), ts.length ≤ (nodeP f ts l).2.1.length ∧ (nodeP f ts l).2.2.length ≤ l.length ∧ ((nodeP f ts l).1 = true → (nodeP f ts l).2.1.length + (nodeP f ts l).2.2.length ≤ ts.length + l.length)
  | 0, ts, l => by simp [nodeP]
  | f + 1, ts, l => by
    have e1 := eatL_le l 43
    have e2 := eatL_le (eatL l 43) 45
    have e3 := eatL_le (eatL (eatL l 43) 45) 40
    rw [nodeP]
    split
    case isTrue h =>
      have := eatL_lt h
      simp only [List.length_append, List.length_cons, List.length_nil]
      exact ⟨by omega, by omega, fun _ => by omega⟩
    split
    case isTrue h =>
      have := eatL_lt h
      simp only [List.length_append, List.length_cons, List.length_nil]
      exact ⟨by omega, by omega, fun _ => by omega⟩
    split
    case isTrue h =>
      simp only [List.length_append, List.length_cons, List.length_nil]
      exact ⟨by omega, by omega, fun h => by cases h⟩
    case isFalse h =>
    have e4 := eatL_lt (by simpa using h)
    split
    · simp only [List.length_append, List.length_cons, List.length_nil]
      exact ⟨by omega, by omega, fun h => by cases h⟩
    case h_2 p hp =>
      have e5 := numS_le hp
      have e6 := eatL_le p.2 32
      split
      · simp only [List.length_append, List.length_cons, List.length_nil]
        exact ⟨by omega, by omega, fun h => by cases h⟩
      · have i1 := nodeP_len f (ts ++ [⟨0, 0, 0, false⟩]) (eatL p.2 32)
        simp only [List.length_append, List.length_cons, List.length_nil] at i1 ⊢
        generalize nodeP f (ts ++ [⟨0, 0, 0, false⟩]) (eatL p.2 32) = r at i1 ⊢
        obtain ⟨j1, j2, j3⟩ := i1
        have e7 := eatL_le r.2.2 32
        split
        · exact ⟨by dsimp only; omega, by dsimp only; omega, fun h => by cases h⟩
        split
        · exact ⟨by dsimp only; omega, by dsimp only; omega, fun h => by cases h⟩
        rename_i hr _
        have i1' := j3 (by simpa using hr)
        have i2 := nodeP_len f r.2.1 (eatL r.2.2 32)
        generalize nodeP f r.2.1 (eatL r.2.2 32) = r2 at i2 ⊢
        obtain ⟨k1, k2, k3⟩ := i2
        have e8 := eatL_le r2.2.2 41
        split
        · exact ⟨by dsimp only; omega, by dsimp only; omega, fun h => by cases h⟩
        split
        · exact ⟨by dsimp only; omega, by dsimp only; omega, fun h => by cases h⟩
        rename_i hr2 _
        have i2' := k3 (by simpa using hr2)
        simp only [List.length_set]
        exact ⟨by omega, by omega, fun _ => by omega⟩
theorem eEat : Entr Tryz.prog 113 := Entr.of Tryz.func113 rfl rfl
theorem eNumber : Entr Tryz.prog 114 := Entr.of Tryz.func114 rfl rfl
theorem eNode : Entr Tryz.prog 71 := Entr.of Tryz.func71 rfl rfl
theorem eat_43 {w0 w : World} {R : Heap} {L : List Heap} {b : Nat} {a : Option Addr} {len cap : Nat} (l : List UInt8) (hl : l.length ≤ 1048576) (hw : H w0 R (rdr b (.slice a len cap) l :: L) w) :
    Calls Tryz.prog 113 #[.pointer (some ⟨b, 0, none⟩), .int .u8 43] w fun e w' => ∃ v L', e = .returned v ∧ H w0 R L' w' ∧ (v = .bool (eatB l 43) ∧ L' = rdr b (.slice a len cap) (eatL l 43) :: L) := eat_any l 43 hl hw
theorem eat_45 {w0 w : World} {R : Heap} {L : List Heap} {b : Nat} {a : Option Addr} {len cap : Nat} (l : List UInt8) (hl : l.length ≤ 1048576) (hw : H w0 R (rdr b (.slice a len cap) l :: L) w) :
    Calls Tryz.prog 113 #[.pointer (some ⟨b, 0, none⟩), .int .u8 45] w fun e w' => ∃ v L', e = .returned v ∧ H w0 R L' w' ∧ (v = .bool (eatB l 45) ∧ L' = rdr b (.slice a len cap) (eatL l 45) :: L) := eat_any l 45 hl hw
theorem eat_40 {w0 w : World} {R : Heap} {L : List Heap} {b : Nat} {a : Option Addr} {len cap : Nat} (l : List UInt8) (hl : l.length ≤ 1048576) (hw : H w0 R (rdr b (.slice a len cap) l :: L) w) :
    Calls Tryz.prog 113 #[.pointer (some ⟨b, 0, none⟩), .int .u8 40] w fun e w' => ∃ v L', e = .returned v ∧ H w0 R L' w' ∧ (v = .bool (eatB l 40) ∧ L' = rdr b (.slice a len cap) (eatL l 40) :: L) := eat_any l 40 hl hw
theorem eat_32 {w0 w : World} {R : Heap} {L : List Heap} {b : Nat} {a : Option Addr} {len cap : Nat} (l : List UInt8) (hl : l.length ≤ 1048576) (hw : H w0 R (rdr b (.slice a len cap) l :: L) w) :
    Calls Tryz.prog 113 #[.pointer (some ⟨b, 0, none⟩), .int .u8 32] w fun e w' => ∃ v L', e = .returned v ∧ H w0 R L' w' ∧ (v = .bool (eatB l 32) ∧ L' = rdr b (.slice a len cap) (eatL l 32) :: L) := eat_any l 32 hl hw
theorem eat_41 {w0 w : World} {R : Heap} {L : List Heap} {b : Nat} {a : Option Addr} {len cap : Nat} (l : List UInt8) (hl : l.length ≤ 1048576) (hw : H w0 R (rdr b (.slice a len cap) l :: L) w) :
    Calls Tryz.prog 113 #[.pointer (some ⟨b, 0, none⟩), .int .u8 41] w fun e w' => ∃ v L', e = .returned v ∧ H w0 R L' w' ∧ (v = .bool (eatB l 41) ∧ L' = rdr b (.slice a len cap) (eatL l 41) :: L) := eat_any l 41 hl hw
theorem number_some {w0 w : World} {R : Heap} {L : List Heap} {b : Nat} {a : Option Addr} {len cap : Nat} (l : List UInt8) (p : Int × List UInt8) (hn : numS l = some p) (hl : l.length ≤ 1048576) (hw : H w0 R (rdr b (.slice a len cap) l :: L) w) :
    Calls Tryz.prog 114 #[.pointer (some ⟨b, 0, none⟩)] w fun e w' => ∃ v L', e = .returned v ∧ H w0 R L' w' ∧ (v = .tuple #[.int .i64 p.1, .bool true] ∧ L' = rdr b (.slice a len cap) p.2 :: L) := by
  have := number_any l hl hw
  rw [hn] at this
  exact this
theorem number_none {w0 w : World} {R : Heap} {L : List Heap} {b : Nat} {a : Option Addr} {len cap : Nat} (l : List UInt8) (hn : numS l = none) (hl : l.length ≤ 1048576) (hw : H w0 R (rdr b (.slice a len cap) l :: L) w) :
    Calls Tryz.prog 114 #[.pointer (some ⟨b, 0, none⟩)] w fun e w' => ∃ v L', e = .returned v ∧ H w0 R L' w' ∧ (v = .tuple #[.int .i64 0, .bool false] ∧ L' = rdr b (.slice a len cap) l :: L) := by
  have := number_any l hl hw
  rw [hn] at this
  exact this
def NdPost (b : Nat) (L : List Heap) (f : Nat) (ts : List Nd) (l : List UInt8) (v : Value) (L' : List Heap) : Prop :=
  v = .bool (nodeP f ts l).1 ∧ ∃ a' cap' h', L' = rdr b (.slice a' (nodeP f ts l).2.1.length cap') (nodeP f ts l).2.2 :: h' :: L ∧ OwT encN 4 44 a' cap' (nodeP f ts l).2.1 h'
theorem node_any (f : Nat) : ∀ {w0 w : World} {R : Heap} {L : List Heap} {b : Nat} {a : Option Addr} {cap : Nat} {h : Heap} (ts : List Nd) (l : List UInt8), l.length < f → ts.length + l.length ≤ 1048576 → OwT encN 4 44 a cap ts h → H w0 R (rdr b (.slice a ts.length cap) l :: h :: L) w →
    Calls Tryz.prog 71 #[.pointer (some ⟨b, 0, none⟩)] w fun e w' => ∃ v L', e = .returned v ∧ H w0 R L' w' ∧ NdPost b L f ts l v L' := by
  induction f with
  | zero => intro w0 w R L b a cap h ts l hlf; exact absurd hlf (Nat.not_lt_zero _)
  | succ f ih =>
    intro w0 w R L b a cap h ts l hlf hlen ho hw
    have e1 := eatL_le l 43
    have e2 := eatL_le (eatL l 43) 45
    have e3 := eatL_le (eatL (eatL l 43) 45) 40
    have hl1 : (ts ++ [(⟨0, 0, 0, false⟩ : Nd)]).length = ts.length + 1 := by simp
    refine calls_in Tryz.func71 Tryz.ntmps71 rfl rfl (hw) ?_
    cases h1 : eatB l 43 with
    | true =>
      have hP : nodeP (f + 1) ts l = (true, ts ++ [⟨0, 0, 0, true⟩], eatL l 43) := by rw [nodeP]; simp only [h1, if_true, if_false, Bool.false_eq_true, Bool.true_eq_false, reduceIte]
      repeat' first
        | (refine J.isJ ?_; first | (first | (refine J.o 0 ?_; refine J.ev' hΓ ?_) | refine J.nil ?_ | refine J.kd ?_ | (refine J.o 4 ?_; first | refine J.e0 hΓ ?_) | (refine J.o 3 ?_; first | refine J.iJ hΓ ?_ | refine J.ev' hΓ ?_) | (refine J.o 5 ?_; first | refine J.t0 hΓ ?_) | (refine J.o 8 ?_; refine J.bd hΓ ?_) | (refine J.o 9 ?_; refine J.bl hΓ (fun _ => ?_)) | (refine J.o 10 ?_; first | refine J.ev' hΓ ?_) | (refine J.o 11 ?_; first | refine J.ev' hΓ ?_)) | (first | (refine J.app1b (enc := encN) [⟨0, 0, 0, true⟩] hΓ rfl rfl rfl rfl rfl rfl rfl (by assumption) rfl rfl rfl rfl (by omega) (by omega) (by omega) (fun _ _ _ _ => ?_)) | (refine J.app1b (enc := encN) [⟨0, 0, 0, false⟩] hΓ rfl rfl rfl rfl rfl rfl rfl (by assumption) rfl rfl rfl rfl (by omega) (by omega) (by omega) (fun _ _ _ _ => ?_)) | (refine J.fn 113 rfl ?_; first | (refine J.callx eEat rfl rfl (fun w hw => eat_43 _ (by omega) hw) ?_; rintro _ _ ⟨rfl, rfl⟩) | (refine J.callx eEat rfl rfl (fun w hw => eat_45 _ (by omega) hw) ?_; rintro _ _ ⟨rfl, rfl⟩) | (refine J.callx eEat rfl rfl (fun w hw => eat_40 _ (by omega) hw) ?_; rintro _ _ ⟨rfl, rfl⟩) | (refine J.callx eEat rfl rfl (fun w hw => eat_32 _ (by omega) hw) ?_; rintro _ _ ⟨rfl, rfl⟩) | (refine J.callx eEat rfl rfl (fun w hw => eat_41 _ (by omega) hw) ?_; rintro _ _ ⟨rfl, rfl⟩))) | ((fail_if_success refine J.wt ?_); refine J.gc rfl rfl (fun hc => ?_) (fun hc => ?_) <;> ((try simp only [decide_eq_true_eq, decide_eq_false_iff_not, beq_iff_eq, beq_eq_false_iff_ne, bne_iff_ne, bne_eq_false_iff_eq, Bool.not_eq_true', Bool.not_eq_false', Bool.not_eq_true, Bool.not_eq_false] at hc) <;> first | (first | (exact absurd rfl hc) | (exfalso; omega) | (exact absurd (hc.symm.trans (by assumption : _ = false)) (by decide)) | (exact absurd (hc.symm.trans (by assumption : _ = true)) (by decide))) | skip)))
        | (first | refine JC.seq ?_ | refine JC.region ?_ | refine JC.ret ?_ | refine JC.skip ?_ | refine thenK.nn ?_ | refine thenK.r ?_ | refine JC.condT rfl ?_ | (refine JC.cond rfl (fun hc => ?_) (fun hc => ?_) <;> ((try simp only [decide_eq_true_eq, decide_eq_false_iff_not, beq_iff_eq, beq_eq_false_iff_ne, bne_iff_ne, bne_eq_false_iff_eq, Bool.not_eq_true', Bool.not_eq_false', Bool.not_eq_true, Bool.not_eq_false] at hc) <;> first | (first | (exact absurd rfl hc) | (exfalso; omega) | (exact absurd (hc.symm.trans (by assumption : _ = false)) (by decide)) | (exact absurd (hc.symm.trans (by assumption : _ = true)) (by decide))) | skip)))
        | fail
      all_goals refine ret1f rfl rfl rfl (fun w1 hw => ⟨_, _, rfl, hw, ?_⟩)
      all_goals (unfold NdPost; rw [hP]; first | exact ⟨rfl, _, _, _, rfl, by assumption⟩ | (dsimp only; rw [List.length_set]; exact ⟨rfl, _, _, _, rfl, by assumption⟩))
    | false =>
    cases h2 : eatB (eatL l 43) 45 with
    | true =>
      have hP : nodeP (f + 1) ts l = (true, ts ++ [⟨0, 0, 0, false⟩], eatL (eatL l 43) 45) := by rw [nodeP]; simp only [h1, h2, if_true, if_false, Bool.false_eq_true, Bool.true_eq_false, reduceIte]
      repeat' first
        | (refine J.isJ ?_; first | (first | (refine J.o 0 ?_; refine J.ev' hΓ ?_) | refine J.nil ?_ | refine J.kd ?_ | (refine J.o 4 ?_; first | refine J.e0 hΓ ?_) | (refine J.o 3 ?_; first | refine J.iJ hΓ ?_ | refine J.ev' hΓ ?_) | (refine J.o 5 ?_; first | refine J.t0 hΓ ?_) | (refine J.o 8 ?_; refine J.bd hΓ ?_) | (refine J.o 9 ?_; refine J.bl hΓ (fun _ => ?_)) | (refine J.o 10 ?_; first | refine J.ev' hΓ ?_) | (refine J.o 11 ?_; first | refine J.ev' hΓ ?_)) | (first | (refine J.app1b (enc := encN) [⟨0, 0, 0, true⟩] hΓ rfl rfl rfl rfl rfl rfl rfl (by assumption) rfl rfl rfl rfl (by omega) (by omega) (by omega) (fun _ _ _ _ => ?_)) | (refine J.app1b (enc := encN) [⟨0, 0, 0, false⟩] hΓ rfl rfl rfl rfl rfl rfl rfl (by assumption) rfl rfl rfl rfl (by omega) (by omega) (by omega) (fun _ _ _ _ => ?_)) | (refine J.fn 113 rfl ?_; first | (refine J.callx eEat rfl rfl (fun w hw => eat_43 _ (by omega) hw) ?_; rintro _ _ ⟨rfl, rfl⟩) | (refine J.callx eEat rfl rfl (fun w hw => eat_45 _ (by omega) hw) ?_; rintro _ _ ⟨rfl, rfl⟩) | (refine J.callx eEat rfl rfl (fun w hw => eat_40 _ (by omega) hw) ?_; rintro _ _ ⟨rfl, rfl⟩) | (refine J.callx eEat rfl rfl (fun w hw => eat_32 _ (by omega) hw) ?_; rintro _ _ ⟨rfl, rfl⟩) | (refine J.callx eEat rfl rfl (fun w hw => eat_41 _ (by omega) hw) ?_; rintro _ _ ⟨rfl, rfl⟩))) | ((fail_if_success refine J.wt ?_); refine J.gc rfl rfl (fun hc => ?_) (fun hc => ?_) <;> ((try simp only [decide_eq_true_eq, decide_eq_false_iff_not, beq_iff_eq, beq_eq_false_iff_ne, bne_iff_ne, bne_eq_false_iff_eq, Bool.not_eq_true', Bool.not_eq_false', Bool.not_eq_true, Bool.not_eq_false] at hc) <;> first | (first | (exact absurd rfl hc) | (exfalso; omega) | (exact absurd (hc.symm.trans (by assumption : _ = false)) (by decide)) | (exact absurd (hc.symm.trans (by assumption : _ = true)) (by decide))) | skip)))
        | (first | refine JC.seq ?_ | refine JC.region ?_ | refine JC.ret ?_ | refine JC.skip ?_ | refine thenK.nn ?_ | refine thenK.r ?_ | refine JC.condT rfl ?_ | (refine JC.cond rfl (fun hc => ?_) (fun hc => ?_) <;> ((try simp only [decide_eq_true_eq, decide_eq_false_iff_not, beq_iff_eq, beq_eq_false_iff_ne, bne_iff_ne, bne_eq_false_iff_eq, Bool.not_eq_true', Bool.not_eq_false', Bool.not_eq_true, Bool.not_eq_false] at hc) <;> first | (first | (exact absurd rfl hc) | (exfalso; omega) | (exact absurd (hc.symm.trans (by assumption : _ = false)) (by decide)) | (exact absurd (hc.symm.trans (by assumption : _ = true)) (by decide))) | skip)))
        | fail
      all_goals refine ret1f rfl rfl rfl (fun w1 hw => ⟨_, _, rfl, hw, ?_⟩)
      all_goals (unfold NdPost; rw [hP]; first | exact ⟨rfl, _, _, _, rfl, by assumption⟩ | (dsimp only; rw [List.length_set]; exact ⟨rfl, _, _, _, rfl, by assumption⟩))
    | false =>
    cases h3 : eatB (eatL (eatL l 43) 45) 40 with
    | false =>
      have hP : nodeP (f + 1) ts l = (false, ts ++ [(⟨0, 0, 0, false⟩ : Nd)], eatL (eatL (eatL l 43) 45) 40) := by rw [nodeP]; simp only [h1, h2, h3, if_true, if_false, Bool.false_eq_true, Bool.true_eq_false, reduceIte]
      repeat' first
        | (refine J.isJ ?_; first | (first | (refine J.o 0 ?_; refine J.ev' hΓ ?_) | refine J.nil ?_ | refine J.kd ?_ | (refine J.o 4 ?_; first | refine J.e0 hΓ ?_) | (refine J.o 3 ?_; first | refine J.iJ hΓ ?_ | refine J.ev' hΓ ?_) | (refine J.o 5 ?_; first | refine J.t0 hΓ ?_) | (refine J.o 8 ?_; refine J.bd hΓ ?_) | (refine J.o 9 ?_; refine J.bl hΓ (fun _ => ?_)) | (refine J.o 10 ?_; first | refine J.ev' hΓ ?_) | (refine J.o 11 ?_; first | refine J.ev' hΓ ?_)) | (first | (refine J.app1b (enc := encN) [⟨0, 0, 0, true⟩] hΓ rfl rfl rfl rfl rfl rfl rfl (by assumption) rfl rfl rfl rfl (by omega) (by omega) (by omega) (fun _ _ _ _ => ?_)) | (refine J.app1b (enc := encN) [⟨0, 0, 0, false⟩] hΓ rfl rfl rfl rfl rfl rfl rfl (by assumption) rfl rfl rfl rfl (by omega) (by omega) (by omega) (fun _ _ _ _ => ?_)) | (refine J.fn 113 rfl ?_; first | (refine J.callx eEat rfl rfl (fun w hw => eat_43 _ (by omega) hw) ?_; rintro _ _ ⟨rfl, rfl⟩) | (refine J.callx eEat rfl rfl (fun w hw => eat_45 _ (by omega) hw) ?_; rintro _ _ ⟨rfl, rfl⟩) | (refine J.callx eEat rfl rfl (fun w hw => eat_40 _ (by omega) hw) ?_; rintro _ _ ⟨rfl, rfl⟩) | (refine J.callx eEat rfl rfl (fun w hw => eat_32 _ (by omega) hw) ?_; rintro _ _ ⟨rfl, rfl⟩) | (refine J.callx eEat rfl rfl (fun w hw => eat_41 _ (by omega) hw) ?_; rintro _ _ ⟨rfl, rfl⟩)) | (refine J.fn 71 rfl ?_; refine J.callx eNode rfl rfl (fun w hw => ih _ _ (by omega) (by omega) (by assumption) hw) ?_; rintro _ _ ⟨rfl, _, _, _, rfl, _⟩) | (refine J.stT1 (⟨p.1, (ts ++ [(⟨0, 0, 0, false⟩ : Nd)]).length, (nodeP f (ts ++ [⟨0, 0, 0, false⟩]) (eatL p.2 32)).2.1.length, false⟩ : Nd) default hΓ rfl rfl rfl rfl rfl rfl (by assumption) (by omega) (by rfl) (by rfl) (fun _ _ => ?_))) | ((fail_if_success refine J.wt ?_); refine J.gc rfl rfl (fun hc => ?_) (fun hc => ?_) <;> ((try simp only [decide_eq_true_eq, decide_eq_false_iff_not, beq_iff_eq, beq_eq_false_iff_ne, bne_iff_ne, bne_eq_false_iff_eq, Bool.not_eq_true', Bool.not_eq_false', Bool.not_eq_true, Bool.not_eq_false] at hc) <;> first | (first | (exact absurd rfl hc) | (exfalso; omega) | (exact absurd (hc.symm.trans (by assumption : _ = false)) (by decide)) | (exact absurd (hc.symm.trans (by assumption : _ = true)) (by decide))) | skip)))
        | (first | refine JC.seq ?_ | refine JC.region ?_ | refine JC.ret ?_ | refine JC.skip ?_ | refine thenK.nn ?_ | refine thenK.r ?_ | refine JC.condT rfl ?_ | (refine JC.cond rfl (fun hc => ?_) (fun hc => ?_) <;> ((try simp only [decide_eq_true_eq, decide_eq_false_iff_not, beq_iff_eq, beq_eq_false_iff_ne, bne_iff_ne, bne_eq_false_iff_eq, Bool.not_eq_true', Bool.not_eq_false', Bool.not_eq_true, Bool.not_eq_false] at hc) <;> first | (first | (exact absurd rfl hc) | (exfalso; omega) | (exact absurd (hc.symm.trans (by assumption : _ = false)) (by decide)) | (exact absurd (hc.symm.trans (by assumption : _ = true)) (by decide))) | skip)))
        | fail
      all_goals refine ret1f rfl rfl rfl (fun w1 hw => ⟨_, _, rfl, hw, ?_⟩)
      all_goals (unfold NdPost; rw [hP]; first | exact ⟨rfl, _, _, _, rfl, by assumption⟩ | (dsimp only; rw [List.length_set]; exact ⟨rfl, _, _, _, rfl, by assumption⟩))
    | true =>
    have e4 := eatL_lt h3
    cases hn : numS (eatL (eatL (eatL l 43) 45) 40) with
    | none =>
      have hP : nodeP (f + 1) ts l = (false, ts ++ [(⟨0, 0, 0, false⟩ : Nd)], eatL (eatL (eatL l 43) 45) 40) := by rw [nodeP]; simp only [h1, h2, h3, hn, if_true, if_false, Bool.false_eq_true, Bool.true_eq_false, reduceIte]
      repeat' first
        | (refine J.isJ ?_; first | (first | (refine J.o 0 ?_; refine J.ev' hΓ ?_) | refine J.nil ?_ | refine J.kd ?_ | (refine J.o 4 ?_; first | refine J.e0 hΓ ?_) | (refine J.o 3 ?_; first | refine J.iJ hΓ ?_ | refine J.ev' hΓ ?_) | (refine J.o 5 ?_; first | refine J.t0 hΓ ?_) | (refine J.o 8 ?_; refine J.bd hΓ ?_) | (refine J.o 9 ?_; refine J.bl hΓ (fun _ => ?_)) | (refine J.o 10 ?_; first | refine J.ev' hΓ ?_) | (refine J.o 11 ?_; first | refine J.ev' hΓ ?_)) | (first | (refine J.app1b (enc := encN) [⟨0, 0, 0, true⟩] hΓ rfl rfl rfl rfl rfl rfl rfl (by assumption) rfl rfl rfl rfl (by omega) (by omega) (by omega) (fun _ _ _ _ => ?_)) | (refine J.app1b (enc := encN) [⟨0, 0, 0, false⟩] hΓ rfl rfl rfl rfl rfl rfl rfl (by assumption) rfl rfl rfl rfl (by omega) (by omega) (by omega) (fun _ _ _ _ => ?_)) | (refine J.fn 113 rfl ?_; first | (refine J.callx eEat rfl rfl (fun w hw => eat_43 _ (by omega) hw) ?_; rintro _ _ ⟨rfl, rfl⟩) | (refine J.callx eEat rfl rfl (fun w hw => eat_45 _ (by omega) hw) ?_; rintro _ _ ⟨rfl, rfl⟩) | (refine J.callx eEat rfl rfl (fun w hw => eat_40 _ (by omega) hw) ?_; rintro _ _ ⟨rfl, rfl⟩) | (refine J.callx eEat rfl rfl (fun w hw => eat_32 _ (by omega) hw) ?_; rintro _ _ ⟨rfl, rfl⟩) | (refine J.callx eEat rfl rfl (fun w hw => eat_41 _ (by omega) hw) ?_; rintro _ _ ⟨rfl, rfl⟩)) | (refine J.fn 114 rfl ?_; refine J.callx eNumber rfl rfl (fun w hw => number_none _ hn (by omega) hw) ?_; rintro _ _ ⟨rfl, rfl⟩) | (refine J.fn 71 rfl ?_; refine J.callx eNode rfl rfl (fun w hw => ih _ _ (by omega) (by omega) (by assumption) hw) ?_; rintro _ _ ⟨rfl, _, _, _, rfl, _⟩) | (refine J.stT1 (⟨p.1, (ts ++ [(⟨0, 0, 0, false⟩ : Nd)]).length, (nodeP f (ts ++ [⟨0, 0, 0, false⟩]) (eatL p.2 32)).2.1.length, false⟩ : Nd) default hΓ rfl rfl rfl rfl rfl rfl (by assumption) (by omega) (by rfl) (by rfl) (fun _ _ => ?_))) | ((fail_if_success refine J.wt ?_); refine J.gc rfl rfl (fun hc => ?_) (fun hc => ?_) <;> ((try simp only [decide_eq_true_eq, decide_eq_false_iff_not, beq_iff_eq, beq_eq_false_iff_ne, bne_iff_ne, bne_eq_false_iff_eq, Bool.not_eq_true', Bool.not_eq_false', Bool.not_eq_true, Bool.not_eq_false] at hc) <;> first | (first | (exact absurd rfl hc) | (exfalso; omega) | (exact absurd (hc.symm.trans (by assumption : _ = false)) (by decide)) | (exact absurd (hc.symm.trans (by assumption : _ = true)) (by decide))) | skip)))
        | (first | refine JC.seq ?_ | refine JC.region ?_ | refine JC.ret ?_ | refine JC.skip ?_ | refine thenK.nn ?_ | refine thenK.r ?_ | refine JC.condT rfl ?_ | (refine JC.cond rfl (fun hc => ?_) (fun hc => ?_) <;> ((try simp only [decide_eq_true_eq, decide_eq_false_iff_not, beq_iff_eq, beq_eq_false_iff_ne, bne_iff_ne, bne_eq_false_iff_eq, Bool.not_eq_true', Bool.not_eq_false', Bool.not_eq_true, Bool.not_eq_false] at hc) <;> first | (first | (exact absurd rfl hc) | (exfalso; omega) | (exact absurd (hc.symm.trans (by assumption : _ = false)) (by decide)) | (exact absurd (hc.symm.trans (by assumption : _ = true)) (by decide))) | skip)))
        | fail
      all_goals refine ret1f rfl rfl rfl (fun w1 hw => ⟨_, _, rfl, hw, ?_⟩)
      all_goals (unfold NdPost; rw [hP]; first | exact ⟨rfl, _, _, _, rfl, by assumption⟩ | (dsimp only; rw [List.length_set]; exact ⟨rfl, _, _, _, rfl, by assumption⟩))
    | some p =>
    have e5 := numS_le hn
    have e6 := eatL_le p.2 32
    cases h5 : eatB p.2 32 with
    | false =>
      have hP : nodeP (f + 1) ts l = (false, ts ++ [(⟨0, 0, 0, false⟩ : Nd)], eatL p.2 32) := by rw [nodeP]; simp only [h1, h2, h3, hn, h5, if_true, if_false, Bool.false_eq_true, Bool.true_eq_false, reduceIte]
      repeat' first
        | (refine J.isJ ?_; first | (first | (refine J.o 0 ?_; refine J.ev' hΓ ?_) | refine J.nil ?_ | refine J.kd ?_ | (refine J.o 4 ?_; first | refine J.e0 hΓ ?_) | (refine J.o 3 ?_; first | refine J.iJ hΓ ?_ | refine J.ev' hΓ ?_) | (refine J.o 5 ?_; first | refine J.t0 hΓ ?_) | (refine J.o 8 ?_; refine J.bd hΓ ?_) | (refine J.o 9 ?_; refine J.bl hΓ (fun _ => ?_)) | (refine J.o 10 ?_; first | refine J.ev' hΓ ?_) | (refine J.o 11 ?_; first | refine J.ev' hΓ ?_)) | (first | (refine J.app1b (enc := encN) [⟨0, 0, 0, true⟩] hΓ rfl rfl rfl rfl rfl rfl rfl (by assumption) rfl rfl rfl rfl (by omega) (by omega) (by omega) (fun _ _ _ _ => ?_)) | (refine J.app1b (enc := encN) [⟨0, 0, 0, false⟩] hΓ rfl rfl rfl rfl rfl rfl rfl (by assumption) rfl rfl rfl rfl (by omega) (by omega) (by omega) (fun _ _ _ _ => ?_)) | (refine J.fn 113 rfl ?_; first | (refine J.callx eEat rfl rfl (fun w hw => eat_43 _ (by omega) hw) ?_; rintro _ _ ⟨rfl, rfl⟩) | (refine J.callx eEat rfl rfl (fun w hw => eat_45 _ (by omega) hw) ?_; rintro _ _ ⟨rfl, rfl⟩) | (refine J.callx eEat rfl rfl (fun w hw => eat_40 _ (by omega) hw) ?_; rintro _ _ ⟨rfl, rfl⟩) | (refine J.callx eEat rfl rfl (fun w hw => eat_32 _ (by omega) hw) ?_; rintro _ _ ⟨rfl, rfl⟩) | (refine J.callx eEat rfl rfl (fun w hw => eat_41 _ (by omega) hw) ?_; rintro _ _ ⟨rfl, rfl⟩)) | (refine J.fn 114 rfl ?_; refine J.callx eNumber rfl rfl (fun w hw => number_some _ p hn (by omega) hw) ?_; rintro _ _ ⟨rfl, rfl⟩) | (refine J.fn 71 rfl ?_; refine J.callx eNode rfl rfl (fun w hw => ih _ _ (by omega) (by omega) (by assumption) hw) ?_; rintro _ _ ⟨rfl, _, _, _, rfl, _⟩) | (refine J.stT1 (⟨p.1, (ts ++ [(⟨0, 0, 0, false⟩ : Nd)]).length, (nodeP f (ts ++ [⟨0, 0, 0, false⟩]) (eatL p.2 32)).2.1.length, false⟩ : Nd) default hΓ rfl rfl rfl rfl rfl rfl (by assumption) (by omega) (by rfl) (by rfl) (fun _ _ => ?_))) | ((fail_if_success refine J.wt ?_); refine J.gc rfl rfl (fun hc => ?_) (fun hc => ?_) <;> ((try simp only [decide_eq_true_eq, decide_eq_false_iff_not, beq_iff_eq, beq_eq_false_iff_ne, bne_iff_ne, bne_eq_false_iff_eq, Bool.not_eq_true', Bool.not_eq_false', Bool.not_eq_true, Bool.not_eq_false] at hc) <;> first | (first | (exact absurd rfl hc) | (exfalso; omega) | (exact absurd (hc.symm.trans (by assumption : _ = false)) (by decide)) | (exact absurd (hc.symm.trans (by assumption : _ = true)) (by decide))) | skip)))
        | (first | refine JC.seq ?_ | refine JC.region ?_ | refine JC.ret ?_ | refine JC.skip ?_ | refine thenK.nn ?_ | refine thenK.r ?_ | refine JC.condT rfl ?_ | (refine JC.cond rfl (fun hc => ?_) (fun hc => ?_) <;> ((try simp only [decide_eq_true_eq, decide_eq_false_iff_not, beq_iff_eq, beq_eq_false_iff_ne, bne_iff_ne, bne_eq_false_iff_eq, Bool.not_eq_true', Bool.not_eq_false', Bool.not_eq_true, Bool.not_eq_false] at hc) <;> first | (first | (exact absurd rfl hc) | (exfalso; omega) | (exact absurd (hc.symm.trans (by assumption : _ = false)) (by decide)) | (exact absurd (hc.symm.trans (by assumption : _ = true)) (by decide))) | skip)))
        | fail
      all_goals refine ret1f rfl rfl rfl (fun w1 hw => ⟨_, _, rfl, hw, ?_⟩)
      all_goals (unfold NdPost; rw [hP]; first | exact ⟨rfl, _, _, _, rfl, by assumption⟩ | (dsimp only; rw [List.length_set]; exact ⟨rfl, _, _, _, rfl, by assumption⟩))
    | true =>
    obtain ⟨j1, j2, j3⟩ := nodeP_len f (ts ++ [(⟨0, 0, 0, false⟩ : Nd)]) (eatL p.2 32)
    have e7 := eatL_le (nodeP f (ts ++ [(⟨0, 0, 0, false⟩ : Nd)]) (eatL p.2 32)).2.2 32
    cases hr : (nodeP f (ts ++ [(⟨0, 0, 0, false⟩ : Nd)]) (eatL p.2 32)).1 with
    | false =>
      have hP : nodeP (f + 1) ts l = (false, (nodeP f (ts ++ [(⟨0, 0, 0, false⟩ : Nd)]) (eatL p.2 32)).2.1, (nodeP f (ts ++ [(⟨0, 0, 0, false⟩ : Nd)]) (eatL p.2 32)).2.2) := by rw [nodeP]; simp only [h1, h2, h3, hn, h5, hr, if_true, if_false, Bool.false_eq_true, Bool.true_eq_false, reduceIte]
      repeat' first
        | (refine J.isJ ?_; first | (first | (refine J.o 0 ?_; refine J.ev' hΓ ?_) | refine J.nil ?_ | refine J.kd ?_ | (refine J.o 4 ?_; first | refine J.e0 hΓ ?_) | (refine J.o 3 ?_; first | refine J.iJ hΓ ?_ | refine J.ev' hΓ ?_) | (refine J.o 5 ?_; first | refine J.t0 hΓ ?_) | (refine J.o 8 ?_; refine J.bd hΓ ?_) | (refine J.o 9 ?_; refine J.bl hΓ (fun _ => ?_)) | (refine J.o 10 ?_; first | refine J.ev' hΓ ?_) | (refine J.o 11 ?_; first | refine J.ev' hΓ ?_)) | (first | (refine J.app1b (enc := encN) [⟨0, 0, 0, true⟩] hΓ rfl rfl rfl rfl rfl rfl rfl (by assumption) rfl rfl rfl rfl (by omega) (by omega) (by omega) (fun _ _ _ _ => ?_)) | (refine J.app1b (enc := encN) [⟨0, 0, 0, false⟩] hΓ rfl rfl rfl rfl rfl rfl rfl (by assumption) rfl rfl rfl rfl (by omega) (by omega) (by omega) (fun _ _ _ _ => ?_)) | (refine J.fn 113 rfl ?_; first | (refine J.callx eEat rfl rfl (fun w hw => eat_43 _ (by omega) hw) ?_; rintro _ _ ⟨rfl, rfl⟩) | (refine J.callx eEat rfl rfl (fun w hw => eat_45 _ (by omega) hw) ?_; rintro _ _ ⟨rfl, rfl⟩) | (refine J.callx eEat rfl rfl (fun w hw => eat_40 _ (by omega) hw) ?_; rintro _ _ ⟨rfl, rfl⟩) | (refine J.callx eEat rfl rfl (fun w hw => eat_32 _ (by omega) hw) ?_; rintro _ _ ⟨rfl, rfl⟩) | (refine J.callx eEat rfl rfl (fun w hw => eat_41 _ (by omega) hw) ?_; rintro _ _ ⟨rfl, rfl⟩)) | (refine J.fn 114 rfl ?_; refine J.callx eNumber rfl rfl (fun w hw => number_some _ p hn (by omega) hw) ?_; rintro _ _ ⟨rfl, rfl⟩) | (refine J.fn 71 rfl ?_; refine J.callx eNode rfl rfl (fun w hw => ih _ _ (by omega) (by omega) (by assumption) hw) ?_; rintro _ _ ⟨rfl, _, _, _, rfl, _⟩) | (refine J.stT1 (⟨p.1, (ts ++ [(⟨0, 0, 0, false⟩ : Nd)]).length, (nodeP f (ts ++ [⟨0, 0, 0, false⟩]) (eatL p.2 32)).2.1.length, false⟩ : Nd) default hΓ rfl rfl rfl rfl rfl rfl (by assumption) (by omega) (by rfl) (by rfl) (fun _ _ => ?_))) | ((fail_if_success refine J.wt ?_); refine J.gc rfl rfl (fun hc => ?_) (fun hc => ?_) <;> ((try simp only [decide_eq_true_eq, decide_eq_false_iff_not, beq_iff_eq, beq_eq_false_iff_ne, bne_iff_ne, bne_eq_false_iff_eq, Bool.not_eq_true', Bool.not_eq_false', Bool.not_eq_true, Bool.not_eq_false] at hc) <;> first | (first | (exact absurd rfl hc) | (exfalso; omega) | (exact absurd (hc.symm.trans (by assumption : _ = false)) (by decide)) | (exact absurd (hc.symm.trans (by assumption : _ = true)) (by decide))) | skip)))
        | (first | refine JC.seq ?_ | refine JC.region ?_ | refine JC.ret ?_ | refine JC.skip ?_ | refine thenK.nn ?_ | refine thenK.r ?_ | refine JC.condT rfl ?_ | (refine JC.cond rfl (fun hc => ?_) (fun hc => ?_) <;> ((try simp only [decide_eq_true_eq, decide_eq_false_iff_not, beq_iff_eq, beq_eq_false_iff_ne, bne_iff_ne, bne_eq_false_iff_eq, Bool.not_eq_true', Bool.not_eq_false', Bool.not_eq_true, Bool.not_eq_false] at hc) <;> first | (first | (exact absurd rfl hc) | (exfalso; omega) | (exact absurd (hc.symm.trans (by assumption : _ = false)) (by decide)) | (exact absurd (hc.symm.trans (by assumption : _ = true)) (by decide))) | skip)))
        | fail
      all_goals refine ret1f rfl rfl rfl (fun w1 hw => ⟨_, _, rfl, hw, ?_⟩)
      all_goals (unfold NdPost; rw [hP]; first | exact ⟨rfl, _, _, _, rfl, by assumption⟩ | (dsimp only; rw [List.length_set]; exact ⟨rfl, _, _, _, rfl, by assumption⟩))
    | true =>
    have j4 := j3 hr
    cases h6 : eatB (nodeP f (ts ++ [(⟨0, 0, 0, false⟩ : Nd)]) (eatL p.2 32)).2.2 32 with
    | false =>
      have hP : nodeP (f + 1) ts l = (false, (nodeP f (ts ++ [(⟨0, 0, 0, false⟩ : Nd)]) (eatL p.2 32)).2.1, eatL (nodeP f (ts ++ [(⟨0, 0, 0, false⟩ : Nd)]) (eatL p.2 32)).2.2 32) := by rw [nodeP]; simp only [h1, h2, h3, hn, h5, hr, h6, if_true, if_false, Bool.false_eq_true, Bool.true_eq_false, reduceIte]
      repeat' first
        | (refine J.isJ ?_; first | (first | (refine J.o 0 ?_; refine J.ev' hΓ ?_) | refine J.nil ?_ | refine J.kd ?_ | (refine J.o 4 ?_; first | refine J.e0 hΓ ?_) | (refine J.o 3 ?_; first | refine J.iJ hΓ ?_ | refine J.ev' hΓ ?_) | (refine J.o 5 ?_; first | refine J.t0 hΓ ?_) | (refine J.o 8 ?_; refine J.bd hΓ ?_) | (refine J.o 9 ?_; refine J.bl hΓ (fun _ => ?_)) | (refine J.o 10 ?_; first | refine J.ev' hΓ ?_) | (refine J.o 11 ?_; first | refine J.ev' hΓ ?_)) | (first | (refine J.app1b (enc := encN) [⟨0, 0, 0, true⟩] hΓ rfl rfl rfl rfl rfl rfl rfl (by assumption) rfl rfl rfl rfl (by omega) (by omega) (by omega) (fun _ _ _ _ => ?_)) | (refine J.app1b (enc := encN) [⟨0, 0, 0, false⟩] hΓ rfl rfl rfl rfl rfl rfl rfl (by assumption) rfl rfl rfl rfl (by omega) (by omega) (by omega) (fun _ _ _ _ => ?_)) | (refine J.fn 113 rfl ?_; first | (refine J.callx eEat rfl rfl (fun w hw => eat_43 _ (by omega) hw) ?_; rintro _ _ ⟨rfl, rfl⟩) | (refine J.callx eEat rfl rfl (fun w hw => eat_45 _ (by omega) hw) ?_; rintro _ _ ⟨rfl, rfl⟩) | (refine J.callx eEat rfl rfl (fun w hw => eat_40 _ (by omega) hw) ?_; rintro _ _ ⟨rfl, rfl⟩) | (refine J.callx eEat rfl rfl (fun w hw => eat_32 _ (by omega) hw) ?_; rintro _ _ ⟨rfl, rfl⟩) | (refine J.callx eEat rfl rfl (fun w hw => eat_41 _ (by omega) hw) ?_; rintro _ _ ⟨rfl, rfl⟩)) | (refine J.fn 114 rfl ?_; refine J.callx eNumber rfl rfl (fun w hw => number_some _ p hn (by omega) hw) ?_; rintro _ _ ⟨rfl, rfl⟩) | (refine J.fn 71 rfl ?_; refine J.callx eNode rfl rfl (fun w hw => ih _ _ (by omega) (by omega) (by assumption) hw) ?_; rintro _ _ ⟨rfl, _, _, _, rfl, _⟩) | (refine J.stT1 (⟨p.1, (ts ++ [(⟨0, 0, 0, false⟩ : Nd)]).length, (nodeP f (ts ++ [⟨0, 0, 0, false⟩]) (eatL p.2 32)).2.1.length, false⟩ : Nd) default hΓ rfl rfl rfl rfl rfl rfl (by assumption) (by omega) (by rfl) (by rfl) (fun _ _ => ?_))) | ((fail_if_success refine J.wt ?_); refine J.gc rfl rfl (fun hc => ?_) (fun hc => ?_) <;> ((try simp only [decide_eq_true_eq, decide_eq_false_iff_not, beq_iff_eq, beq_eq_false_iff_ne, bne_iff_ne, bne_eq_false_iff_eq, Bool.not_eq_true', Bool.not_eq_false', Bool.not_eq_true, Bool.not_eq_false] at hc) <;> first | (first | (exact absurd rfl hc) | (exfalso; omega) | (exact absurd (hc.symm.trans (by assumption : _ = false)) (by decide)) | (exact absurd (hc.symm.trans (by assumption : _ = true)) (by decide))) | skip)))
        | (first | refine JC.seq ?_ | refine JC.region ?_ | refine JC.ret ?_ | refine JC.skip ?_ | refine thenK.nn ?_ | refine thenK.r ?_ | refine JC.condT rfl ?_ | (refine JC.cond rfl (fun hc => ?_) (fun hc => ?_) <;> ((try simp only [decide_eq_true_eq, decide_eq_false_iff_not, beq_iff_eq, beq_eq_false_iff_ne, bne_iff_ne, bne_eq_false_iff_eq, Bool.not_eq_true', Bool.not_eq_false', Bool.not_eq_true, Bool.not_eq_false] at hc) <;> first | (first | (exact absurd rfl hc) | (exfalso; omega) | (exact absurd (hc.symm.trans (by assumption : _ = false)) (by decide)) | (exact absurd (hc.symm.trans (by assumption : _ = true)) (by decide))) | skip)))
        | fail
      all_goals refine ret1f rfl rfl rfl (fun w1 hw => ⟨_, _, rfl, hw, ?_⟩)
      all_goals (unfold NdPost; rw [hP]; first | exact ⟨rfl, _, _, _, rfl, by assumption⟩ | (dsimp only; rw [List.length_set]; exact ⟨rfl, _, _, _, rfl, by assumption⟩))
    | true =>
    have e8 := eatL_lt h6
    obtain ⟨k1, k2, k3⟩ := nodeP_len f (nodeP f (ts ++ [(⟨0, 0, 0, false⟩ : Nd)]) (eatL p.2 32)).2.1 (eatL (nodeP f (ts ++ [(⟨0, 0, 0, false⟩ : Nd)]) (eatL p.2 32)).2.2 32)
    have e9 := eatL_le (nodeP f (nodeP f (ts ++ [(⟨0, 0, 0, false⟩ : Nd)]) (eatL p.2 32)).2.1 (eatL (nodeP f (ts ++ [(⟨0, 0, 0, false⟩ : Nd)]) (eatL p.2 32)).2.2 32)).2.2 41
    cases hr2 : (nodeP f (nodeP f (ts ++ [(⟨0, 0, 0, false⟩ : Nd)]) (eatL p.2 32)).2.1 (eatL (nodeP f (ts ++ [(⟨0, 0, 0, false⟩ : Nd)]) (eatL p.2 32)).2.2 32)).1 with
    | false =>
      have hP : nodeP (f + 1) ts l = (false, (nodeP f (nodeP f (ts ++ [(⟨0, 0, 0, false⟩ : Nd)]) (eatL p.2 32)).2.1 (eatL (nodeP f (ts ++ [(⟨0, 0, 0, false⟩ : Nd)]) (eatL p.2 32)).2.2 32)).2.1, (nodeP f (nodeP f (ts ++ [(⟨0, 0, 0, false⟩ : Nd)]) (eatL p.2 32)).2.1 (eatL (nodeP f (ts ++ [(⟨0, 0, 0, false⟩ : Nd)]) (eatL p.2 32)).2.2 32)).2.2) := by rw [nodeP]; simp only [h1, h2, h3, hn, h5, hr, h6, hr2, if_true, if_false, Bool.false_eq_true, Bool.true_eq_false, reduceIte]
      repeat' first
        | (refine J.isJ ?_; first | (first | (refine J.o 0 ?_; refine J.ev' hΓ ?_) | refine J.nil ?_ | refine J.kd ?_ | (refine J.o 4 ?_; first | refine J.e0 hΓ ?_) | (refine J.o 3 ?_; first | refine J.iJ hΓ ?_ | refine J.ev' hΓ ?_) | (refine J.o 5 ?_; first | refine J.t0 hΓ ?_) | (refine J.o 8 ?_; refine J.bd hΓ ?_) | (refine J.o 9 ?_; refine J.bl hΓ (fun _ => ?_)) | (refine J.o 10 ?_; first | refine J.ev' hΓ ?_) | (refine J.o 11 ?_; first | refine J.ev' hΓ ?_)) | (first | (refine J.app1b (enc := encN) [⟨0, 0, 0, true⟩] hΓ rfl rfl rfl rfl rfl rfl rfl (by assumption) rfl rfl rfl rfl (by omega) (by omega) (by omega) (fun _ _ _ _ => ?_)) | (refine J.app1b (enc := encN) [⟨0, 0, 0, false⟩] hΓ rfl rfl rfl rfl rfl rfl rfl (by assumption) rfl rfl rfl rfl (by omega) (by omega) (by omega) (fun _ _ _ _ => ?_)) | (refine J.fn 113 rfl ?_; first | (refine J.callx eEat rfl rfl (fun w hw => eat_43 _ (by omega) hw) ?_; rintro _ _ ⟨rfl, rfl⟩) | (refine J.callx eEat rfl rfl (fun w hw => eat_45 _ (by omega) hw) ?_; rintro _ _ ⟨rfl, rfl⟩) | (refine J.callx eEat rfl rfl (fun w hw => eat_40 _ (by omega) hw) ?_; rintro _ _ ⟨rfl, rfl⟩) | (refine J.callx eEat rfl rfl (fun w hw => eat_32 _ (by omega) hw) ?_; rintro _ _ ⟨rfl, rfl⟩) | (refine J.callx eEat rfl rfl (fun w hw => eat_41 _ (by omega) hw) ?_; rintro _ _ ⟨rfl, rfl⟩)) | (refine J.fn 114 rfl ?_; refine J.callx eNumber rfl rfl (fun w hw => number_some _ p hn (by omega) hw) ?_; rintro _ _ ⟨rfl, rfl⟩) | (refine J.fn 71 rfl ?_; refine J.callx eNode rfl rfl (fun w hw => ih _ _ (by omega) (by omega) (by assumption) hw) ?_; rintro _ _ ⟨rfl, _, _, _, rfl, _⟩) | (refine J.stT1 (⟨p.1, (ts ++ [(⟨0, 0, 0, false⟩ : Nd)]).length, (nodeP f (ts ++ [⟨0, 0, 0, false⟩]) (eatL p.2 32)).2.1.length, false⟩ : Nd) default hΓ rfl rfl rfl rfl rfl rfl (by assumption) (by omega) (by rfl) (by rfl) (fun _ _ => ?_))) | ((fail_if_success refine J.wt ?_); refine J.gc rfl rfl (fun hc => ?_) (fun hc => ?_) <;> ((try simp only [decide_eq_true_eq, decide_eq_false_iff_not, beq_iff_eq, beq_eq_false_iff_ne, bne_iff_ne, bne_eq_false_iff_eq, Bool.not_eq_true', Bool.not_eq_false', Bool.not_eq_true, Bool.not_eq_false] at hc) <;> first | (first | (exact absurd rfl hc) | (exfalso; omega) | (exact absurd (hc.symm.trans (by assumption : _ = false)) (by decide)) | (exact absurd (hc.symm.trans (by assumption : _ = true)) (by decide))) | skip)))
        | (first | refine JC.seq ?_ | refine JC.region ?_ | refine JC.ret ?_ | refine JC.skip ?_ | refine thenK.nn ?_ | refine thenK.r ?_ | refine JC.condT rfl ?_ | (refine JC.cond rfl (fun hc => ?_) (fun hc => ?_) <;> ((try simp only [decide_eq_true_eq, decide_eq_false_iff_not, beq_iff_eq, beq_eq_false_iff_ne, bne_iff_ne, bne_eq_false_iff_eq, Bool.not_eq_true', Bool.not_eq_false', Bool.not_eq_true, Bool.not_eq_false] at hc) <;> first | (first | (exact absurd rfl hc) | (exfalso; omega) | (exact absurd (hc.symm.trans (by assumption : _ = false)) (by decide)) | (exact absurd (hc.symm.trans (by assumption : _ = true)) (by decide))) | skip)))
        | fail
      all_goals refine ret1f rfl rfl rfl (fun w1 hw => ⟨_, _, rfl, hw, ?_⟩)
      all_goals (unfold NdPost; rw [hP]; first | exact ⟨rfl, _, _, _, rfl, by assumption⟩ | (dsimp only; rw [List.length_set]; exact ⟨rfl, _, _, _, rfl, by assumption⟩))
    | true =>
    have k4 := k3 hr2
    cases h7 : eatB (nodeP f (nodeP f (ts ++ [(⟨0, 0, 0, false⟩ : Nd)]) (eatL p.2 32)).2.1 (eatL (nodeP f (ts ++ [(⟨0, 0, 0, false⟩ : Nd)]) (eatL p.2 32)).2.2 32)).2.2 41 with
    | false =>
      have hP : nodeP (f + 1) ts l = (false, (nodeP f (nodeP f (ts ++ [(⟨0, 0, 0, false⟩ : Nd)]) (eatL p.2 32)).2.1 (eatL (nodeP f (ts ++ [(⟨0, 0, 0, false⟩ : Nd)]) (eatL p.2 32)).2.2 32)).2.1, eatL (nodeP f (nodeP f (ts ++ [(⟨0, 0, 0, false⟩ : Nd)]) (eatL p.2 32)).2.1 (eatL (nodeP f (ts ++ [(⟨0, 0, 0, false⟩ : Nd)]) (eatL p.2 32)).2.2 32)).2.2 41) := by rw [nodeP]; simp only [h1, h2, h3, hn, h5, hr, h6, hr2, h7, if_true, if_false, Bool.false_eq_true, Bool.true_eq_false, reduceIte]
      repeat' first
        | (refine J.isJ ?_; first | (first | (refine J.o 0 ?_; refine J.ev' hΓ ?_) | refine J.nil ?_ | refine J.kd ?_ | (refine J.o 4 ?_; first | refine J.e0 hΓ ?_) | (refine J.o 3 ?_; first | refine J.iJ hΓ ?_ | refine J.ev' hΓ ?_) | (refine J.o 5 ?_; first | refine J.t0 hΓ ?_) | (refine J.o 8 ?_; refine J.bd hΓ ?_) | (refine J.o 9 ?_; refine J.bl hΓ (fun _ => ?_)) | (refine J.o 10 ?_; first | refine J.ev' hΓ ?_) | (refine J.o 11 ?_; first | refine J.ev' hΓ ?_)) | (first | (refine J.app1b (enc := encN) [⟨0, 0, 0, true⟩] hΓ rfl rfl rfl rfl rfl rfl rfl (by assumption) rfl rfl rfl rfl (by omega) (by omega) (by omega) (fun _ _ _ _ => ?_)) | (refine J.app1b (enc := encN) [⟨0, 0, 0, false⟩] hΓ rfl rfl rfl rfl rfl rfl rfl (by assumption) rfl rfl rfl rfl (by omega) (by omega) (by omega) (fun _ _ _ _ => ?_)) | (refine J.fn 113 rfl ?_; first | (refine J.callx eEat rfl rfl (fun w hw => eat_43 _ (by omega) hw) ?_; rintro _ _ ⟨rfl, rfl⟩) | (refine J.callx eEat rfl rfl (fun w hw => eat_45 _ (by omega) hw) ?_; rintro _ _ ⟨rfl, rfl⟩) | (refine J.callx eEat rfl rfl (fun w hw => eat_40 _ (by omega) hw) ?_; rintro _ _ ⟨rfl, rfl⟩) | (refine J.callx eEat rfl rfl (fun w hw => eat_32 _ (by omega) hw) ?_; rintro _ _ ⟨rfl, rfl⟩) | (refine J.callx eEat rfl rfl (fun w hw => eat_41 _ (by omega) hw) ?_; rintro _ _ ⟨rfl, rfl⟩)) | (refine J.fn 114 rfl ?_; refine J.callx eNumber rfl rfl (fun w hw => number_some _ p hn (by omega) hw) ?_; rintro _ _ ⟨rfl, rfl⟩) | (refine J.fn 71 rfl ?_; refine J.callx eNode rfl rfl (fun w hw => ih _ _ (by omega) (by omega) (by assumption) hw) ?_; rintro _ _ ⟨rfl, _, _, _, rfl, _⟩) | (refine J.stT1 (⟨p.1, (ts ++ [(⟨0, 0, 0, false⟩ : Nd)]).length, (nodeP f (ts ++ [⟨0, 0, 0, false⟩]) (eatL p.2 32)).2.1.length, false⟩ : Nd) default hΓ rfl rfl rfl rfl rfl rfl (by assumption) (by omega) (by rfl) (by rfl) (fun _ _ => ?_))) | ((fail_if_success refine J.wt ?_); refine J.gc rfl rfl (fun hc => ?_) (fun hc => ?_) <;> ((try simp only [decide_eq_true_eq, decide_eq_false_iff_not, beq_iff_eq, beq_eq_false_iff_ne, bne_iff_ne, bne_eq_false_iff_eq, Bool.not_eq_true', Bool.not_eq_false', Bool.not_eq_true, Bool.not_eq_false] at hc) <;> first | (first | (exact absurd rfl hc) | (exfalso; omega) | (exact absurd (hc.symm.trans (by assumption : _ = false)) (by decide)) | (exact absurd (hc.symm.trans (by assumption : _ = true)) (by decide))) | skip)))
        | (first | refine JC.seq ?_ | refine JC.region ?_ | refine JC.ret ?_ | refine JC.skip ?_ | refine thenK.nn ?_ | refine thenK.r ?_ | refine JC.condT rfl ?_ | (refine JC.cond rfl (fun hc => ?_) (fun hc => ?_) <;> ((try simp only [decide_eq_true_eq, decide_eq_false_iff_not, beq_iff_eq, beq_eq_false_iff_ne, bne_iff_ne, bne_eq_false_iff_eq, Bool.not_eq_true', Bool.not_eq_false', Bool.not_eq_true, Bool.not_eq_false] at hc) <;> first | (first | (exact absurd rfl hc) | (exfalso; omega) | (exact absurd (hc.symm.trans (by assumption : _ = false)) (by decide)) | (exact absurd (hc.symm.trans (by assumption : _ = true)) (by decide))) | skip)))
        | fail
      all_goals refine ret1f rfl rfl rfl (fun w1 hw => ⟨_, _, rfl, hw, ?_⟩)
      all_goals (unfold NdPost; rw [hP]; first | exact ⟨rfl, _, _, _, rfl, by assumption⟩ | (dsimp only; rw [List.length_set]; exact ⟨rfl, _, _, _, rfl, by assumption⟩))
    | true =>
      have hP : nodeP (f + 1) ts l = (true, (nodeP f (nodeP f (ts ++ [(⟨0, 0, 0, false⟩ : Nd)]) (eatL p.2 32)).2.1 (eatL (nodeP f (ts ++ [(⟨0, 0, 0, false⟩ : Nd)]) (eatL p.2 32)).2.2 32)).2.1.set ts.length ⟨p.1, (ts ++ [(⟨0, 0, 0, false⟩ : Nd)]).length, (nodeP f (ts ++ [(⟨0, 0, 0, false⟩ : Nd)]) (eatL p.2 32)).2.1.length, false⟩, eatL (nodeP f (nodeP f (ts ++ [(⟨0, 0, 0, false⟩ : Nd)]) (eatL p.2 32)).2.1 (eatL (nodeP f (ts ++ [(⟨0, 0, 0, false⟩ : Nd)]) (eatL p.2 32)).2.2 32)).2.2 41) := by rw [nodeP]; simp only [h1, h2, h3, hn, h5, hr, h6, hr2, h7, if_true, if_false, Bool.false_eq_true, Bool.true_eq_false, reduceIte]
      repeat' first
        | (refine J.isJ ?_; first | (first | (refine J.o 0 ?_; refine J.ev' hΓ ?_) | refine J.nil ?_ | refine J.kd ?_ | (refine J.o 4 ?_; first | refine J.e0 hΓ ?_) | (refine J.o 3 ?_; first | refine J.iJ hΓ ?_ | refine J.ev' hΓ ?_) | (refine J.o 5 ?_; first | refine J.t0 hΓ ?_) | (refine J.o 8 ?_; refine J.bd hΓ ?_) | (refine J.o 9 ?_; refine J.bl hΓ (fun _ => ?_)) | (refine J.o 10 ?_; first | refine J.ev' hΓ ?_) | (refine J.o 11 ?_; first | refine J.ev' hΓ ?_)) | (first | (refine J.app1b (enc := encN) [⟨0, 0, 0, true⟩] hΓ rfl rfl rfl rfl rfl rfl rfl (by assumption) rfl rfl rfl rfl (by omega) (by omega) (by omega) (fun _ _ _ _ => ?_)) | (refine J.app1b (enc := encN) [⟨0, 0, 0, false⟩] hΓ rfl rfl rfl rfl rfl rfl rfl (by assumption) rfl rfl rfl rfl (by omega) (by omega) (by omega) (fun _ _ _ _ => ?_)) | (refine J.fn 113 rfl ?_; first | (refine J.callx eEat rfl rfl (fun w hw => eat_43 _ (by omega) hw) ?_; rintro _ _ ⟨rfl, rfl⟩) | (refine J.callx eEat rfl rfl (fun w hw => eat_45 _ (by omega) hw) ?_; rintro _ _ ⟨rfl, rfl⟩) | (refine J.callx eEat rfl rfl (fun w hw => eat_40 _ (by omega) hw) ?_; rintro _ _ ⟨rfl, rfl⟩) | (refine J.callx eEat rfl rfl (fun w hw => eat_32 _ (by omega) hw) ?_; rintro _ _ ⟨rfl, rfl⟩) | (refine J.callx eEat rfl rfl (fun w hw => eat_41 _ (by omega) hw) ?_; rintro _ _ ⟨rfl, rfl⟩)) | (refine J.fn 114 rfl ?_; refine J.callx eNumber rfl rfl (fun w hw => number_some _ p hn (by omega) hw) ?_; rintro _ _ ⟨rfl, rfl⟩) | (refine J.fn 71 rfl ?_; refine J.callx eNode rfl rfl (fun w hw => ih _ _ (by omega) (by omega) (by assumption) hw) ?_; rintro _ _ ⟨rfl, _, _, _, rfl, _⟩) | (refine J.stT1 (⟨p.1, (ts ++ [(⟨0, 0, 0, false⟩ : Nd)]).length, (nodeP f (ts ++ [⟨0, 0, 0, false⟩]) (eatL p.2 32)).2.1.length, false⟩ : Nd) default hΓ rfl rfl rfl rfl rfl rfl (by assumption) (by omega) (by rfl) (by rfl) (fun _ _ => ?_))) | ((fail_if_success refine J.wt ?_); refine J.gc rfl rfl (fun hc => ?_) (fun hc => ?_) <;> ((try simp only [decide_eq_true_eq, decide_eq_false_iff_not, beq_iff_eq, beq_eq_false_iff_ne, bne_iff_ne, bne_eq_false_iff_eq, Bool.not_eq_true', Bool.not_eq_false', Bool.not_eq_true, Bool.not_eq_false] at hc) <;> first | (first | (exact absurd rfl hc) | (exfalso; omega) | (exact absurd (hc.symm.trans (by assumption : _ = false)) (by decide)) | (exact absurd (hc.symm.trans (by assumption : _ = true)) (by decide))) | skip)))
        | (first | refine JC.seq ?_ | refine JC.region ?_ | refine JC.ret ?_ | refine JC.skip ?_ | refine thenK.nn ?_ | refine thenK.r ?_ | refine JC.condT rfl ?_ | (refine JC.cond rfl (fun hc => ?_) (fun hc => ?_) <;> ((try simp only [decide_eq_true_eq, decide_eq_false_iff_not, beq_iff_eq, beq_eq_false_iff_ne, bne_iff_ne, bne_eq_false_iff_eq, Bool.not_eq_true', Bool.not_eq_false', Bool.not_eq_true, Bool.not_eq_false] at hc) <;> first | (first | (exact absurd rfl hc) | (exfalso; omega) | (exact absurd (hc.symm.trans (by assumption : _ = false)) (by decide)) | (exact absurd (hc.symm.trans (by assumption : _ = true)) (by decide))) | skip)))
        | fail
      all_goals refine ret1f rfl rfl rfl (fun w1 hw => ⟨_, _, rfl, hw, ?_⟩)
      all_goals (unfold NdPost; rw [hP]; first | exact ⟨rfl, _, _, _, rfl, by assumption⟩ | (dsimp only; rw [List.length_set]; exact ⟨rfl, _, _, _, rfl, by assumption⟩))
end Go.Proofs.YtdiciemlbhkilaaGreatDoor
namespace Go.Proofs.YtdiciemlbhkilaaGreatDoor
open Go Go.Cx Go.RowKit
set_option linter.unusedVariables false
set_option linter.unusedSimpArgs false
set_option maxHeartbeats 4000000
attribute [local irreducible] J JC thenK blockK loopK roundK drawK retK QW Qt pel List.set Calls
def parseP (l : List UInt8) : Int × List Nd :=
  if 1048576 < l.length then (2, [])
  else if (nodeP (l.length + 1) [] l).1 = false then (5, [])
  else if (nodeP (l.length + 1) [] l).2.2 ≠ [] then (5, [])
  else if checkT (nodeP (l.length + 1) [] l).2.1 128 = 0 then (0, (nodeP (l.length + 1) [] l).2.1)
  else (checkT (nodeP (l.length + 1) [] l).2.1 128, [])
def TreeErr (e : TypeId) (p : Int × List Nd) (v : Value) (h : Heap) : Prop := ∃ a cap, v = .tuple #[.slice a p.2.length cap, .int .i64 p.1] ∧ OwT encN 4 e a cap p.2 h
theorem parse_any (l : List UInt8) (w : World) : Calls Tryz.prog 29 #[.string (S l)] w (Gives (TreeErr 44 (parseP l)) w) := by
  refine calls_of_JC (R := []) Tryz.func29 Tryz.ntmps29 rfl rfl (Holds.nil _) ?_
  unfold parseP
  by_cases h0 : 1048576 < l.length
  · rw [if_pos h0]
    repeat' first
      | (refine J.isJ ?_; (first | (first | (refine J.o 0 ?_; refine J.ev' hΓ ?_) | refine J.nil ?_ | refine J.kd ?_ | (refine J.o 4 ?_; first | refine J.e0 hΓ ?_) | (refine J.o 3 ?_; first | refine J.ev' hΓ ?_) | (refine J.o 6 ?_; refine J.bx (fun _ => ?_)) | (refine J.o 8 ?_; refine J.bd hΓ ?_) | (refine J.o 10 ?_; first | refine J.ls hΓ ?_ | refine J.ev' hΓ ?_) | (refine J.o 11 ?_; first | refine J.xS ?_ | refine J.ev' hΓ ?_)) | ((fail_if_success refine J.wt ?_); refine J.gc rfl rfl (fun hc => ?_) (fun hc => ?_) <;> ((try simp only [decide_eq_true_eq, decide_eq_false_iff_not, beq_iff_eq, beq_eq_false_iff_ne, bne_iff_ne, bne_eq_false_iff_eq, Bool.not_eq_true', Bool.not_eq_false', Bool.not_eq_true, Bool.not_eq_false] at hc) <;> first | (first | (exact absurd rfl hc) | (exfalso; omega) | (exact absurd (hc.symm.trans (by assumption : _ = false)) (by decide)) | (exact absurd (hc.symm.trans (by assumption : _ = true)) (by decide))) | skip))))
      | (first | refine JC.seq ?_ | refine JC.region ?_ | refine JC.ret ?_ | refine JC.skip ?_ | refine thenK.nn ?_ | refine thenK.r ?_ | refine JC.condT rfl ?_ | (refine JC.cond rfl (fun hc => ?_) (fun hc => ?_) <;> ((try simp only [decide_eq_true_eq, decide_eq_false_iff_not, beq_iff_eq, beq_eq_false_iff_ne, bne_iff_ne, bne_eq_false_iff_eq, Bool.not_eq_true', Bool.not_eq_false', Bool.not_eq_true, Bool.not_eq_false] at hc) <;> first | (first | (exact absurd rfl hc) | (exfalso; omega) | (exact absurd (hc.symm.trans (by assumption : _ = false)) (by decide)) | (exact absurd (hc.symm.trans (by assumption : _ = true)) (by decide))) | skip)))
      | fail
    all_goals first | (exfalso; omega) | exact ret2f rfl rfl rfl rfl rfl (fun w1 hw => Gives.of hw.nilF ⟨none, 0, rfl, OwT.nil (fun _ => rfl)⟩)
  rw [if_neg h0]
  cases h1 : (nodeP (l.length + 1) [] l).1 with
  | false =>
    rw [if_pos rfl]
    repeat' first
      | (refine J.isJ ?_; first | (first | (refine J.o 0 ?_; refine J.ev' hΓ ?_) | refine J.nil ?_ | refine J.kd ?_ | (refine J.o 4 ?_; first | refine J.e0 hΓ ?_) | (refine J.o 3 ?_; first | refine J.ev' hΓ ?_) | (refine J.o 6 ?_; refine J.bx (fun _ => ?_)) | (refine J.o 8 ?_; refine J.bd hΓ ?_) | (refine J.o 10 ?_; first | refine J.ls hΓ ?_ | refine J.ev' hΓ ?_) | (refine J.o 11 ?_; first | refine J.xS ?_ | refine J.ev' hΓ ?_)) | (first | (refine J.fn 71 rfl ?_; refine J.callx eNode rfl rfl (fun w hw => node_any (l.length + 1) [] l (by omega) (by simp only [List.length_nil]; omega) (OwT.nil (fun _ => rfl)) (hw.nilF.perm (.swap _ _ _))) ?_; rintro _ _ ⟨rfl, _, _, _, rfl, _⟩) | (refine J.fn 21 rfl ?_; refine J.call0 eCheck rfl rfl (fun w hw => check_any _ _ _ 128 _ (by assumption : OwT _ _ _ _ _ _ _).sl w (hw.rdH RdH.hd.tl)) ?_)) | ((fail_if_success refine J.wt ?_); refine J.gc rfl rfl (fun hc => ?_) (fun hc => ?_) <;> ((try simp only [decide_eq_true_eq, decide_eq_false_iff_not, beq_iff_eq, beq_eq_false_iff_ne, bne_iff_ne, bne_eq_false_iff_eq, Bool.not_eq_true', Bool.not_eq_false', Bool.not_eq_true, Bool.not_eq_false] at hc) <;> first | (first | (exact absurd rfl hc) | (exfalso; omega) | (exact absurd (hc.symm.trans (by assumption : _ = false)) (by decide)) | (exact absurd (hc.symm.trans (by assumption : _ = true)) (by decide))) | skip)))
      | (first | refine JC.seq ?_ | refine JC.region ?_ | refine JC.ret ?_ | refine JC.skip ?_ | refine thenK.nn ?_ | refine thenK.r ?_ | refine JC.condT rfl ?_ | (refine JC.cond rfl (fun hc => ?_) (fun hc => ?_) <;> ((try simp only [decide_eq_true_eq, decide_eq_false_iff_not, beq_iff_eq, beq_eq_false_iff_ne, bne_iff_ne, bne_eq_false_iff_eq, Bool.not_eq_true', Bool.not_eq_false', Bool.not_eq_true, Bool.not_eq_false] at hc) <;> first | (first | (exact absurd rfl hc) | (exfalso; omega) | (exact absurd (hc.symm.trans (by assumption : _ = false)) (by decide)) | (exact absurd (hc.symm.trans (by assumption : _ = true)) (by decide))) | skip)))
      | fail
    all_goals first | (exfalso; omega) | contradiction | exact ret2f rfl rfl rfl rfl rfl (fun w1 hw => Gives.of hw.nilF ⟨none, 0, rfl, OwT.nil (fun _ => rfl)⟩)
  | true =>
    rw [if_neg (by decide)]
    by_cases h2 : (nodeP (l.length + 1) [] l).2.2 = []
    case neg =>
      rw [if_pos h2]
      repeat' first
        | (refine J.isJ ?_; first | (first | (refine J.o 0 ?_; refine J.ev' hΓ ?_) | refine J.nil ?_ | refine J.kd ?_ | (refine J.o 4 ?_; first | refine J.e0 hΓ ?_) | (refine J.o 3 ?_; first | refine J.ev' hΓ ?_) | (refine J.o 6 ?_; refine J.bx (fun _ => ?_)) | (refine J.o 8 ?_; refine J.bd hΓ ?_) | (refine J.o 10 ?_; first | refine J.ls hΓ ?_ | refine J.ev' hΓ ?_) | (refine J.o 11 ?_; first | refine J.xS ?_ | refine J.ev' hΓ ?_)) | (first | (refine J.fn 71 rfl ?_; refine J.callx eNode rfl rfl (fun w hw => node_any (l.length + 1) [] l (by omega) (by simp only [List.length_nil]; omega) (OwT.nil (fun _ => rfl)) (hw.nilF.perm (.swap _ _ _))) ?_; rintro _ _ ⟨rfl, _, _, _, rfl, _⟩) | (refine J.fn 21 rfl ?_; refine J.call0 eCheck rfl rfl (fun w hw => check_any _ _ _ 128 _ (by assumption : OwT _ _ _ _ _ _ _).sl w (hw.rdH RdH.hd.tl)) ?_)) | ((fail_if_success refine J.wt ?_); refine J.gc rfl rfl (fun hc => ?_) (fun hc => ?_) <;> ((try simp only [decide_eq_true_eq, decide_eq_false_iff_not, beq_iff_eq, beq_eq_false_iff_ne, bne_iff_ne, bne_eq_false_iff_eq, Bool.not_eq_true', Bool.not_eq_false', Bool.not_eq_true, Bool.not_eq_false] at hc) <;> first | (first | (exact absurd rfl hc) | (exfalso; omega) | (exact absurd (hc.symm.trans (by assumption : _ = false)) (by decide)) | (exact absurd (hc.symm.trans (by assumption : _ = true)) (by decide))) | skip)))
        | (first | refine JC.seq ?_ | refine JC.region ?_ | refine JC.ret ?_ | refine JC.skip ?_ | refine thenK.nn ?_ | refine thenK.r ?_ | refine JC.condT rfl ?_ | (refine JC.cond rfl (fun hc => ?_) (fun hc => ?_) <;> ((try simp only [decide_eq_true_eq, decide_eq_false_iff_not, beq_iff_eq, beq_eq_false_iff_ne, bne_iff_ne, bne_eq_false_iff_eq, Bool.not_eq_true', Bool.not_eq_false', Bool.not_eq_true, Bool.not_eq_false] at hc) <;> first | (first | (exact absurd rfl hc) | (exfalso; omega) | (exact absurd (hc.symm.trans (by assumption : _ = false)) (by decide)) | (exact absurd (hc.symm.trans (by assumption : _ = true)) (by decide))) | skip)))
        | fail
      all_goals first | (exfalso; omega) | contradiction | exact ret2f rfl rfl rfl rfl rfl (fun w1 hw => Gives.of hw.nilF ⟨none, 0, rfl, OwT.nil (fun _ => rfl)⟩)
    rw [if_neg (fun h => h h2)]
    by_cases h3 : checkT (nodeP (l.length + 1) [] l).2.1 128 = 0
    · rw [if_pos h3]
      repeat' first
        | (refine J.isJ ?_; first | (first | (refine J.o 0 ?_; refine J.ev' hΓ ?_) | refine J.nil ?_ | refine J.kd ?_ | (refine J.o 4 ?_; first | refine J.e0 hΓ ?_) | (refine J.o 3 ?_; first | refine J.ev' hΓ ?_) | (refine J.o 6 ?_; refine J.bx (fun _ => ?_)) | (refine J.o 8 ?_; refine J.bd hΓ ?_) | (refine J.o 10 ?_; first | refine J.ls hΓ ?_ | refine J.ev' hΓ ?_) | (refine J.o 11 ?_; first | refine J.xS ?_ | refine J.ev' hΓ ?_)) | (first | (refine J.fn 71 rfl ?_; refine J.callx eNode rfl rfl (fun w hw => node_any (l.length + 1) [] l (by omega) (by simp only [List.length_nil]; omega) (OwT.nil (fun _ => rfl)) (hw.nilF.perm (.swap _ _ _))) ?_; rintro _ _ ⟨rfl, _, _, _, rfl, _⟩) | (refine J.fn 21 rfl ?_; refine J.call0 eCheck rfl rfl (fun w hw => check_any _ _ _ 128 _ (by assumption : OwT _ _ _ _ _ _ _).sl w (hw.rdH RdH.hd.tl)) ?_)) | ((fail_if_success refine J.wt ?_); refine J.gc rfl rfl (fun hc => ?_) (fun hc => ?_) <;> ((try simp only [decide_eq_true_eq, decide_eq_false_iff_not, beq_iff_eq, beq_eq_false_iff_ne, bne_iff_ne, bne_eq_false_iff_eq, Bool.not_eq_true', Bool.not_eq_false', Bool.not_eq_true, Bool.not_eq_false] at hc) <;> first | (first | (exact absurd rfl hc) | (exfalso; omega) | (exact absurd (hc.symm.trans (by assumption : _ = false)) (by decide)) | (exact absurd (hc.symm.trans (by assumption : _ = true)) (by decide))) | skip)))
        | (first | refine JC.seq ?_ | refine JC.region ?_ | refine JC.ret ?_ | refine JC.skip ?_ | refine thenK.nn ?_ | refine thenK.r ?_ | refine JC.condT rfl ?_ | (refine JC.cond rfl (fun hc => ?_) (fun hc => ?_) <;> ((try simp only [decide_eq_true_eq, decide_eq_false_iff_not, beq_iff_eq, beq_eq_false_iff_ne, bne_iff_ne, bne_eq_false_iff_eq, Bool.not_eq_true', Bool.not_eq_false', Bool.not_eq_true, Bool.not_eq_false] at hc) <;> first | (first | (exact absurd rfl hc) | (exfalso; omega) | (exact absurd (hc.symm.trans (by assumption : _ = false)) (by decide)) | (exact absurd (hc.symm.trans (by assumption : _ = true)) (by decide))) | skip)))
        | fail
      all_goals first | (exfalso; omega) | contradiction | exact ret2f rfl rfl rfl rfl rfl (fun w1 hw => Gives.of (hw.perm (.swap _ _ _)) ⟨_, _, rfl, by assumption⟩)
    · rw [if_neg h3]
      repeat' first
        | (refine J.isJ ?_; first | (first | (refine J.o 0 ?_; refine J.ev' hΓ ?_) | refine J.nil ?_ | refine J.kd ?_ | (refine J.o 4 ?_; first | refine J.e0 hΓ ?_) | (refine J.o 3 ?_; first | refine J.ev' hΓ ?_) | (refine J.o 6 ?_; refine J.bx (fun _ => ?_)) | (refine J.o 8 ?_; refine J.bd hΓ ?_) | (refine J.o 10 ?_; first | refine J.ls hΓ ?_ | refine J.ev' hΓ ?_) | (refine J.o 11 ?_; first | refine J.xS ?_ | refine J.ev' hΓ ?_)) | (first | (refine J.fn 71 rfl ?_; refine J.callx eNode rfl rfl (fun w hw => node_any (l.length + 1) [] l (by omega) (by simp only [List.length_nil]; omega) (OwT.nil (fun _ => rfl)) (hw.nilF.perm (.swap _ _ _))) ?_; rintro _ _ ⟨rfl, _, _, _, rfl, _⟩) | (refine J.fn 21 rfl ?_; refine J.call0 eCheck rfl rfl (fun w hw => check_any _ _ _ 128 _ (by assumption : OwT _ _ _ _ _ _ _).sl w (hw.rdH RdH.hd.tl)) ?_)) | ((fail_if_success refine J.wt ?_); refine J.gc rfl rfl (fun hc => ?_) (fun hc => ?_) <;> ((try simp only [decide_eq_true_eq, decide_eq_false_iff_not, beq_iff_eq, beq_eq_false_iff_ne, bne_iff_ne, bne_eq_false_iff_eq, Bool.not_eq_true', Bool.not_eq_false', Bool.not_eq_true, Bool.not_eq_false] at hc) <;> first | (first | (exact absurd rfl hc) | (exfalso; omega) | (exact absurd (hc.symm.trans (by assumption : _ = false)) (by decide)) | (exact absurd (hc.symm.trans (by assumption : _ = true)) (by decide))) | skip)))
        | (first | refine JC.seq ?_ | refine JC.region ?_ | refine JC.ret ?_ | refine JC.skip ?_ | refine thenK.nn ?_ | refine thenK.r ?_ | refine JC.condT rfl ?_ | (refine JC.cond rfl (fun hc => ?_) (fun hc => ?_) <;> ((try simp only [decide_eq_true_eq, decide_eq_false_iff_not, beq_iff_eq, beq_eq_false_iff_ne, bne_iff_ne, bne_eq_false_iff_eq, Bool.not_eq_true', Bool.not_eq_false', Bool.not_eq_true, Bool.not_eq_false] at hc) <;> first | (first | (exact absurd rfl hc) | (exfalso; omega) | (exact absurd (hc.symm.trans (by assumption : _ = false)) (by decide)) | (exact absurd (hc.symm.trans (by assumption : _ = true)) (by decide))) | skip)))
        | fail
      all_goals first | (exfalso; omega) | contradiction | exact ret2f rfl rfl rfl rfl rfl (fun w1 hw => Gives.of hw.nilF ⟨none, 0, rfl, OwT.nil (fun _ => rfl)⟩)
end Go.Proofs.YtdiciemlbhkilaaGreatDoor
namespace Go.Proofs.YtdiciemlbhkilaaGreatDoor
open Go Go.Cx Go.RowKit
set_option linter.unusedVariables false
set_option linter.unusedSimpArgs false
set_option maxHeartbeats 4000000
attribute [local irreducible] J JC thenK blockK loopK roundK drawK retK QW Qt pel List.set Calls
def strN (ts : List Nd) : Nat → Int → List UInt8
  | 0, _ => []
  | f + 1, i =>
    if (ts.getD i.toNat default).v = 0 then (if (ts.getD i.toNat default).c then [43] else [45])
    else [40] ++ Lib.itoa (ts.getD i.toNat default).v ++ [32] ++ strN ts f (ts.getD i.toNat default).no ++ [32] ++ strN ts f (ts.getD i.toNat default).yes ++ [41]
def encStr (l : List UInt8) : List Value := [.string (S l)]
theorem print1_any (c : Bool) (w : World) : Calls Tryz.prog 78 #[.bool c] w fun e w' => e = .returned (.string (S (if c then [43] else [45]))) ∧ Below w.heap.size w w' := by
  cases c with
  | true =>
    refine calls_of_JC (R := []) Tryz.func78 Tryz.ntmps78 rfl rfl (Holds.nil _) ?_
    repeat' first
      | (refine J.isJ ?_; (first | (first | (refine J.o 0 ?_; refine J.ev' hΓ ?_) | refine J.nil ?_ | (refine J.o 3 ?_; first | refine J.ev' hΓ ?_) | (refine J.o 10 ?_; first | refine J.ev' hΓ ?_) | (refine J.o 11 ?_; first | refine J.ev' hΓ ?_))))
      | (first | refine JC.seq ?_ | refine JC.region ?_ | refine JC.ret ?_ | refine JC.skip ?_ | refine thenK.nn ?_ | refine thenK.r ?_ | refine JC.condT rfl ?_ | refine JC.condF rfl ?_)
      | fail
    all_goals exact ret1f rfl rfl rfl (fun w1 hw => ⟨rfl, hw.below⟩)
  | false =>
    refine calls_of_JC (R := []) Tryz.func78 Tryz.ntmps78 rfl rfl (Holds.nil _) ?_
    repeat' first
      | (refine J.isJ ?_; (first | (first | (refine J.o 0 ?_; refine J.ev' hΓ ?_) | refine J.nil ?_ | (refine J.o 3 ?_; first | refine J.ev' hΓ ?_) | (refine J.o 10 ?_; first | refine J.ev' hΓ ?_) | (refine J.o 11 ?_; first | refine J.ev' hΓ ?_))))
      | (first | refine JC.seq ?_ | refine JC.region ?_ | refine JC.ret ?_ | refine JC.skip ?_ | refine thenK.nn ?_ | refine thenK.r ?_ | refine JC.condT rfl ?_ | refine JC.condF rfl ?_)
      | fail
    all_goals exact ret1f rfl rfl rfl (fun w1 hw => ⟨rfl, hw.below⟩)
theorem print2_any (v : Int) (a b : List UInt8) (w : World) (hI : ∀ w', Below w.heap.size w w' → Calls Tryz.prog 80 #[.int .i64 v] w' fun e w2 => e = .returned (.string (S (Lib.itoa v))) ∧ Below w'.heap.size w' w2)
    (hi : (Lib.itoa v).length ≤ 1000) (ha : a.length ≤ 1000000000000) (hb : b.length ≤ 1000000000000) :
    Calls Tryz.prog 79 #[.int .i64 v, .string (S a), .string (S b)] w fun e w' => e = .returned (.string (S ([40] ++ Lib.itoa v ++ [32] ++ a ++ [32] ++ b ++ [41]))) ∧ Below w.heap.size w w' := by
  refine calls_of_JC (R := []) Tryz.func79 Tryz.ntmps79 rfl rfl (Holds.nil _) ?_
  repeat' first
    | (refine J.isJ ?_; first | (first | (refine J.o 0 ?_; refine J.ev' hΓ ?_) | refine J.nil ?_ | (refine J.o 3 ?_; first | refine J.ev' hΓ ?_) | (refine J.o 1 ?_; first | refine J.ct ?_) | (refine J.o 10 ?_; first | refine J.ev' hΓ ?_) | (refine J.o 11 ?_; first | refine J.ev' hΓ ?_)) | ((refine J.fn 80 rfl ?_; refine J.call0 eItoa rfl rfl (fun w hw => hI w hw.below) ?_)))
    | (first | refine JC.seq ?_ | refine JC.region ?_ | refine JC.ret ?_ | refine thenK.nn ?_)
    | fail
  all_goals exact ret1f rfl rfl rfl (fun w1 hw => ⟨rfl, hw.below⟩)
theorem ePrint1 : Entr Tryz.prog 78 := Entr.of Tryz.func78 rfl rfl
theorem ePrint2 : Entr Tryz.prog 79 := Entr.of Tryz.func79 rfl rfl
theorem strN_fuel {ts : List Nd} (hl : Later ts) : ∀ (f f' : Nat) (i : Int), 0 ≤ i → i < ts.length → ts.length - i ≤ f → ts.length - i ≤ f' → strN ts f i = strN ts f' i
  | 0, _, i, h0, h1, h2, _ => by omega
  | _ + 1, 0, i, h0, h1, _, h3 => by omega
  | f + 1, f' + 1, i, h0, h1, h2, h3 => by
    rw [strN, strN]
    by_cases hv : (ts.getD i.toNat default).v = 0
    · rw [if_pos hv, if_pos hv]
    · rw [if_neg hv, if_neg hv]
      obtain ⟨l1, l2, l3, l4⟩ := hl i h0 h1 hv
      rw [strN_fuel hl f f' _ (by omega) l2 (by omega) (by omega), strN_fuel hl f f' _ (by omega) l4 (by omega) (by omega)]
def ItoaAt (ts : List Nd) (w : World) : Prop := ∀ (j : Nat), j < ts.length → (ts.getD j default).v ≠ 0 → (Lib.itoa (ts.getD j default).v).length ≤ 1000 ∧ ∀ w', Below w.heap.size w w' → Calls Tryz.prog 80 #[.int .i64 (ts.getD j default).v] w' fun e w2 => e = .returned (.string (S (Lib.itoa (ts.getD j default).v))) ∧ Below w'.heap.size w' w2
def ShortS (ts : List Nd) : Prop := ∀ (j : Int), 0 ≤ j → j < ts.length → (strN ts ts.length j).length ≤ 1000000000000
theorem foldS_any (a : Option Addr) (cap : Nat) (ts : List Nd) (h : Heap) (hs : SlT encN 4 a ts h) (hl : Later ts) (h0 : 0 < ts.length) (hn : ts.length ≤ 4096) (w : World) (hw : Holds h w) (hI : ItoaAt ts w) (hB : ShortS ts) :
    Calls Tryz.prog 77 #[.slice a ts.length cap, .func (.func 78) #[] #[], .func (.func 79) #[] #[]] w fun e w' => e = .returned (.string (S (strN ts ts.length 0))) ∧ Below w.heap.size w w' := by
  refine calls_of_JC (R := h) Tryz.func77 Tryz.ntmps77 rfl rfl (hw) ?_
  repeat' first
    | (refine J.isJ ?_; first | (first | (refine J.o 0 ?_; refine J.ev' hΓ ?_) | refine J.nil ?_ | (refine J.o 4 ?_; first | refine J.e0 hΓ ?_ | refine J.lT default hΓ ?_) | (refine J.o 3 ?_; first | refine J.iJ hΓ ?_ | refine J.ev' hΓ ?_) | (refine J.o 1 ?_; first | refine J.sb ?_) | (refine J.o 5 ?_; first | refine J.t0 hΓ ?_ | refine J.tT1 _ default hΓ (fun _ _ => ?_)) | (refine J.o 7 ?_; refine J.al hΓ (fun _ => ?_)) | (refine J.o 10 ?_; first | refine J.ev' hΓ ?_) | (refine J.o 11 ?_; first | refine J.ev' hΓ ?_)) | ((refine J.make (enc := encStr) ([] : List UInt8) hΓ rfl rfl rfl rfl rfl rfl (fun _ => rfl) (by omega) (by omega) (fun bp hp0 op0 => ?_))))
    | (first | refine JC.seq ?_ | refine JC.region ?_ | refine JC.block ?_ | refine JC.ret ?_ | refine JC.exit ?_ | refine JC.skip ?_ | refine thenK.nn ?_ | refine thenK.x ?_ | refine blockK.nn ?_ | refine blockK.hit rfl ?_ | refine JC.condT rfl ?_ | (refine JC.cond rfl (fun hc => ?_) (fun hc => ?_) <;> ((try simp only [decide_eq_true_eq, decide_eq_false_iff_not, beq_iff_eq, beq_eq_false_iff_ne, bne_iff_ne, bne_eq_false_iff_eq, Bool.not_eq_true', Bool.not_eq_false', Bool.not_eq_true, Bool.not_eq_false] at hc) <;> first | (first | (exact absurd rfl hc) | (exfalso; omega) | (exact absurd (hc.symm.trans (by assumption : _ = false)) (by decide)) | (exact absurd (hc.symm.trans (by assumption : _ = true)) (by decide))) | skip)) | (refine JC.drawA [] (by kernel_rfl) (by kernel_rfl) ?_) | refine drawK.nn ?_ | refine loopK.x ?_)
    | fail
  refine JC.loop (fun i => i == 8 || i == 9 || Nat.ble 16 i) (fun m g L => ∃ (i : Int) (vs : List (List UInt8)) (hp : Heap), g 8 = .int .i64 i ∧ i = (m : Int) - 1 ∧ m ≤ ts.length ∧ vs.length = ts.length ∧ OwT encStr 1 9 (some ⟨bp, 0, none⟩) ts.length vs hp ∧ L = [hp] ∧ (∀ j : Nat, m ≤ j → j < ts.length → vs.getD j default = strN ts ts.length j)) ts.length ⟨_, _, _, rfl, rfl, by omega, by simp, op0, rfl, fun j h1 h2 => by omega⟩ ?_
  rintro m g L ⟨i, vs, hp, e8, hi, hm, hvl, op, rfl, hv⟩
  refine JC.pin 8 e8 ?_
  clear e8 op0
  cases m with
  | zero =>
    have hv0 := hv 0 (by omega) h0
    repeat' first
      | (refine J.isJ ?_; (first | (first | (refine J.o 0 ?_; refine J.ev' hΓ ?_) | refine J.nil ?_ | (refine J.o 4 ?_; first | refine J.e0 hΓ ?_ | refine J.lT default hΓ ?_) | (refine J.o 3 ?_; first | refine J.iJ hΓ ?_ | refine J.ev' hΓ ?_) | (refine J.o 1 ?_; first | refine J.sb ?_) | (refine J.o 5 ?_; first | refine J.t0 hΓ ?_ | refine J.tT1 _ default hΓ (fun _ _ => ?_)) | (refine J.o 7 ?_; refine J.al hΓ (fun _ => ?_)) | (refine J.o 10 ?_; first | refine J.ev' hΓ ?_) | (refine J.o 11 ?_; first | refine J.ev' hΓ ?_))))
      | (first | refine JC.seq ?_ | refine JC.region ?_ | refine JC.block ?_ | refine JC.ret ?_ | refine JC.exit ?_ | refine JC.skip ?_ | refine thenK.nn ?_ | refine thenK.x ?_ | refine blockK.nn ?_ | refine blockK.hit rfl ?_ | refine JC.condT rfl ?_ | (refine JC.cond rfl (fun hc => ?_) (fun hc => ?_) <;> ((try simp only [decide_eq_true_eq, decide_eq_false_iff_not, beq_iff_eq, beq_eq_false_iff_ne, bne_iff_ne, bne_eq_false_iff_eq, Bool.not_eq_true', Bool.not_eq_false', Bool.not_eq_true, Bool.not_eq_false] at hc) <;> first | (first | (exact absurd rfl hc) | (exfalso; omega) | (exact absurd (hc.symm.trans (by assumption : _ = false)) (by decide)) | (exact absurd (hc.symm.trans (by assumption : _ = true)) (by decide))) | skip)) | (refine JC.drawA [] (by kernel_rfl) (by kernel_rfl) ?_) | refine drawK.nn ?_ | refine loopK.x ?_)
      | fail
    all_goals first | (exfalso; omega) | skip
    all_goals exact ret1f rfl rfl rfl (fun w1 hw => ⟨retS (congrArg S hv0), hw.below⟩)
  | succ m =>
    obtain rfl : i = (m : Int) := by omega
    have hmk : m < ts.length := by omega
    have hli := hl m (by omega) (by omega)
    rw [Int.toNat_natCast] at hli
    have hst : strN ts ts.length m = strN ts (ts.length + 1) m := strN_fuel hl _ _ _ (by omega) (by omega) (by omega) (by omega)
    rw [strN, Int.toNat_natCast] at hst
    by_cases hv0 : (ts.getD m default).v = 0
    · rw [if_pos hv0] at hst
      repeat' first
        | (refine J.isJ ?_; first | (first | (refine J.o 0 ?_; refine J.ev' hΓ ?_) | refine J.nil ?_ | (refine J.o 4 ?_; first | refine J.e0 hΓ ?_ | refine J.lT default hΓ ?_) | (refine J.o 3 ?_; first | refine J.iJ hΓ ?_ | refine J.ev' hΓ ?_) | (refine J.o 1 ?_; first | refine J.sb ?_) | (refine J.o 5 ?_; first | refine J.t0 hΓ ?_ | refine J.tT1 _ default hΓ (fun _ _ => ?_)) | (refine J.o 7 ?_; refine J.al hΓ (fun _ => ?_)) | (refine J.o 10 ?_; first | refine J.ev' hΓ ?_) | (refine J.o 11 ?_; first | refine J.ev' hΓ ?_)) | (refine J.callv0 ePrint1 rfl rfl rfl (fun w hw => print1_any _ w) ?_))
        | (first | refine JC.seq ?_ | refine JC.region ?_ | refine JC.block ?_ | refine JC.ret ?_ | refine JC.exit ?_ | refine JC.skip ?_ | refine thenK.nn ?_ | refine thenK.x ?_ | refine blockK.nn ?_ | refine blockK.hit rfl ?_ | refine JC.condT rfl ?_ | (refine JC.cond rfl (fun hc => ?_) (fun hc => ?_) <;> ((try simp only [decide_eq_true_eq, decide_eq_false_iff_not, beq_iff_eq, beq_eq_false_iff_ne, bne_iff_ne, bne_eq_false_iff_eq, Bool.not_eq_true', Bool.not_eq_false', Bool.not_eq_true, Bool.not_eq_false] at hc) <;> first | (first | (exact absurd rfl hc) | (exfalso; omega) | (exact absurd (hc.symm.trans (by assumption : _ = false)) (by decide)) | (exact absurd (hc.symm.trans (by assumption : _ = true)) (by decide))) | skip)) | (refine JC.drawA [] (by kernel_rfl) (by kernel_rfl) ?_) | refine drawK.nn ?_ | refine loopK.x ?_)
        | fail
      all_goals first | (exfalso; omega) | skip
      all_goals refine loopK.np m [_] [_] (by omega) (by repeat (first | refine Ag.upd rfl ?_ | exact Ag.hv)) (List.Perm.refl _) ⟨_, _, _, rfl, rfl, by omega, ?_, by assumption, rfl, ?_⟩
      · rw [List.length_set]; exact hvl
      · intro j hj1 hj2
        rw [getD_set]
        split
        · rename_i hc; rw [← hc.1, hst]
        · rename_i hc; exact hv j (by omega) hj2
    · rw [if_neg hv0] at hst
      obtain ⟨l1, l2, l3, l4⟩ := hli hv0
      have v1 := hv (ts.getD m default).no.toNat (by omega) (by omega)
      have v2 := hv (ts.getD m default).yes.toNat (by omega) (by omega)
      rw [Int.toNat_of_nonneg (by omega)] at v1 v2
      have b1 := hB (ts.getD m default).no (by omega) l2
      have b2 := hB (ts.getD m default).yes (by omega) l4
      rw [← v1] at b1
      rw [← v2] at b2
      obtain ⟨q1, q2⟩ := hI m hmk hv0
      repeat' first
        | (refine J.isJ ?_; first | (first | (refine J.o 0 ?_; refine J.ev' hΓ ?_) | refine J.nil ?_ | (refine J.o 4 ?_; first | refine J.e0 hΓ ?_ | refine J.lT default hΓ ?_) | (refine J.o 3 ?_; first | refine J.iJ hΓ ?_ | refine J.ev' hΓ ?_) | (refine J.o 1 ?_; first | refine J.sb ?_) | (refine J.o 5 ?_; first | refine J.t0 hΓ ?_ | refine J.tT1 _ default hΓ (fun _ _ => ?_)) | (refine J.o 7 ?_; refine J.al hΓ (fun _ => ?_)) | (refine J.o 10 ?_; first | refine J.ev' hΓ ?_) | (refine J.o 11 ?_; first | refine J.ev' hΓ ?_)) | (refine J.callv0 ePrint2 rfl rfl rfl (fun w1 hw => print2_any _ _ _ w1 (fun w' hb => q2 w' (hw.below.trans (hb.mono hw.below.size))) q1 b1 b2) ?_))
        | (first | refine JC.seq ?_ | refine JC.region ?_ | refine JC.block ?_ | refine JC.ret ?_ | refine JC.exit ?_ | refine JC.skip ?_ | refine thenK.nn ?_ | refine thenK.x ?_ | refine blockK.nn ?_ | refine blockK.hit rfl ?_ | refine JC.condT rfl ?_ | (refine JC.cond rfl (fun hc => ?_) (fun hc => ?_) <;> ((try simp only [decide_eq_true_eq, decide_eq_false_iff_not, beq_iff_eq, beq_eq_false_iff_ne, bne_iff_ne, bne_eq_false_iff_eq, Bool.not_eq_true', Bool.not_eq_false', Bool.not_eq_true, Bool.not_eq_false] at hc) <;> first | (first | (exact absurd rfl hc) | (exfalso; omega) | (exact absurd (hc.symm.trans (by assumption : _ = false)) (by decide)) | (exact absurd (hc.symm.trans (by assumption : _ = true)) (by decide))) | skip)) | (refine JC.drawA [] (by kernel_rfl) (by kernel_rfl) ?_) | refine drawK.nn ?_ | refine loopK.x ?_)
        | fail
      all_goals first | (exfalso; omega) | skip
      all_goals refine loopK.np m [_] [_] (by omega) (by repeat (first | refine Ag.upd rfl ?_ | exact Ag.hv)) (List.Perm.refl _) ⟨_, _, _, rfl, rfl, by omega, ?_, by assumption, rfl, ?_⟩
      · rw [List.length_set]; exact hvl
      · intro j hj1 hj2
        rw [getD_set]
        split
        · rename_i hc
          rw [← hc.1, hst, strN_fuel hl ts.length ts.length _ (by omega) l2 (by omega) (by omega), ← v1, ← v2]
        · rename_i hc; exact hv j (by omega) hj2
def printP (ts : List Nd) : Int × List UInt8 := if checkT ts 128 = 0 then (0, strN ts ts.length 0) else (checkT ts 128, [])
theorem eFoldS : Entr Tryz.prog 77 := Entr.of Tryz.func77 rfl rfl
theorem print_any (a : Option Addr) (cap : Nat) (ts : List Nd) (h : Heap) (hs : SlT encN 4 a ts h) (w : World) (hw : Holds h w) (hI : checkT ts 128 = 0 → ItoaAt ts w) (hB : checkT ts 128 = 0 → ShortS ts) :
    Calls Tryz.prog 33 #[.slice a ts.length cap] w fun e w' => e = .returned (.tuple #[.string (S (printP ts).2), .int .i64 (printP ts).1]) ∧ Below w.heap.size w w' := by
  refine calls_of_JC (R := h) Tryz.func33 Tryz.ntmps33 rfl rfl (hw) ?_
  unfold printP
  have cC := fun w => check_any a cap ts 128 h hs w
  by_cases hc : checkT ts 128 = 0
  · rw [if_pos hc]
    obtain ⟨hpos, hall⟩ := fmd_of_checkT hc
    obtain ⟨hla, -⟩ := all_of_fmd hall
    have hle : ts.length ≤ 4096 := by
      unfold checkT at hc
      split at hc
      · omega
      split at hc
      · omega
      · omega
    rw [hc] at cC
    have hI2 : ∀ w1, Below w.heap.size w w1 → ItoaAt ts w1 := fun w1 hb j hj hv => ⟨(hI hc j hj hv).1, fun w' hb' => (hI hc j hj hv).2 w' (hb.trans (hb'.mono hb.size))⟩
    repeat' first
      | (refine J.isJ ?_; first | (first | (refine J.o 0 ?_; refine J.ev' hΓ ?_) | refine J.nil ?_ | (refine J.o 3 ?_; first | refine J.ev' hΓ ?_) | (refine J.o 10 ?_; first | refine J.ev' hΓ ?_) | (refine J.o 11 ?_; first | refine J.ev' hΓ ?_)) | (first | (refine J.fn 21 rfl ?_; refine J.call0 eCheck rfl rfl (fun w hw => cC w (hw.rdH (RdH.old fun _ hh => hh))) ?_) | (refine J.fn 77 rfl ?_; refine J.call0 eFoldS rfl rfl (fun w hw => foldS_any a cap ts h hs hla hpos hle w (hw.rdH (RdH.old fun _ hh => hh)) (hI2 w hw.below) (hB hc)) ?_)))
      | (first | refine JC.seq ?_ | refine JC.region ?_ | refine JC.ret ?_ | refine JC.skip ?_ | refine thenK.nn ?_ | refine thenK.r ?_ | refine JC.condF rfl ?_ | (refine JC.cond rfl (fun hc => ?_) (fun hc => ?_) <;> ((try simp only [decide_eq_true_eq, decide_eq_false_iff_not, beq_iff_eq, beq_eq_false_iff_ne, bne_iff_ne, bne_eq_false_iff_eq, Bool.not_eq_true', Bool.not_eq_false', Bool.not_eq_true, Bool.not_eq_false] at hc) <;> first | (first | (exact absurd rfl hc) | (exfalso; omega) | (exact absurd (hc.symm.trans (by assumption : _ = false)) (by decide)) | (exact absurd (hc.symm.trans (by assumption : _ = true)) (by decide))) | skip)))
      | fail
    all_goals first | (exfalso; omega) | exact ret2f rfl rfl rfl rfl rfl (fun w1 hw => ⟨rfl, hw.below⟩)
  · rw [if_neg hc]
    repeat' first
      | (refine J.isJ ?_; first | (first | (refine J.o 0 ?_; refine J.ev' hΓ ?_) | refine J.nil ?_ | (refine J.o 3 ?_; first | refine J.ev' hΓ ?_) | (refine J.o 10 ?_; first | refine J.ev' hΓ ?_) | (refine J.o 11 ?_; first | refine J.ev' hΓ ?_)) | ((refine J.fn 21 rfl ?_; refine J.call0 eCheck rfl rfl (fun w hw => cC w (hw.rdH (RdH.old fun _ hh => hh))) ?_)))
      | (first | refine JC.seq ?_ | refine JC.region ?_ | refine JC.ret ?_ | refine JC.skip ?_ | refine thenK.nn ?_ | refine thenK.r ?_ | refine JC.condF rfl ?_ | (refine JC.cond rfl (fun hc => ?_) (fun hc => ?_) <;> ((try simp only [decide_eq_true_eq, decide_eq_false_iff_not, beq_iff_eq, beq_eq_false_iff_ne, bne_iff_ne, bne_eq_false_iff_eq, Bool.not_eq_true', Bool.not_eq_false', Bool.not_eq_true, Bool.not_eq_false] at hc) <;> first | (first | (exact absurd rfl hc) | (exfalso; omega) | (exact absurd (hc.symm.trans (by assumption : _ = false)) (by decide)) | (exact absurd (hc.symm.trans (by assumption : _ = true)) (by decide))) | skip)))
      | fail
    all_goals first | (exfalso; omega) | exact ret2f rfl rfl rfl rfl rfl (fun w1 hw => ⟨rfl, hw.below⟩)
end Go.Proofs.YtdiciemlbhkilaaGreatDoor
namespace Go.Proofs.YtdiciemlbhkilaaGreatDoor
open Go Go.Cx Go.RowKit
set_option linter.unusedVariables false
set_option linter.unusedSimpArgs false
set_option maxHeartbeats 4000000
attribute [local irreducible] J JC thenK blockK loopK roundK drawK retK QW Qt pel List.set Calls
def smallL : List Nd := [⟨1, 1, 2, false⟩, ⟨0, 0, 0, false⟩, ⟨2, 3, 4, false⟩, ⟨0, 0, 0, true⟩, ⟨0, 0, 0, false⟩]
def smallT : List UInt8 := [40, 49, 32, 45, 32, 40, 50, 32, 43, 32, 45, 41, 41]
theorem w_check1 : checkT smallL 1 = 1 := by kernel_rfl
theorem w_parse : parseP smallT = (0, smallL) := by kernel_rfl
theorem w_print : printP smallL = (0, smallT) := by kernel_rfl
theorem w_class1 : classT smallL (1, 0) = true := by kernel_rfl
theorem w_class3 : classT smallL (3, 0) = false := by kernel_rfl
theorem w_same : sameN smallL smallL = true := sameN_refl _
theorem _root_.Go.Cx.SlT.mono {α : Type} {enc : α → List Value} {size : Nat} {a : Option Addr} {ts : List α} {h h' : Heap} (hs : SlT enc size a ts h) (hh : ∀ x, x ∈ h → x ∈ h') : SlT enc size a ts h' :=
  ⟨hs.len, fun i hi => let ⟨b, off, cs, e, fr, h1, h2, h3, h4⟩ := hs.at_ i hi; ⟨b, off, cs, e, fr, h1, hh _ h2, h3, h4⟩⟩
theorem parse_small (w : World) : Calls Tryz.prog 29 #[.string (S smallT)] w (Gives (fun v h => ∃ a cap, v = .tuple #[.slice a 5 cap, .int .i64 0] ∧ OwT encN 4 44 a cap smallL h) w) := by
  have := parse_any smallT w
  rw [w_parse] at this
  exact this
theorem itoa_sm (w : World) : ItoaAt smallL w := by
  intro j hj hv
  have : j = 0 ∨ j = 1 ∨ j = 2 ∨ j = 3 ∨ j = 4 := by have : smallL.length = 5 := rfl; omega
  rcases this with rfl | rfl | rfl | rfl | rfl
  · exact ⟨Nat.le_of_ble_eq_true (by kernel_rfl), fun w' _ => itoa_small 1 (by decide) w'⟩
  · exact absurd rfl hv
  · exact ⟨Nat.le_of_ble_eq_true (by kernel_rfl), fun w' _ => itoa_small 2 (by decide) w'⟩
  · exact absurd rfl hv
  · exact absurd rfl hv
theorem short_sm : ShortS smallL := by
  intro j h0 h1
  have : j = 0 ∨ j = 1 ∨ j = 2 ∨ j = 3 ∨ j = 4 := by have : smallL.length = 5 := rfl; omega
  rcases this with rfl | rfl | rfl | rfl | rfl <;> exact Nat.le_of_ble_eq_true (by kernel_rfl)
theorem print_small (a : Option Addr) (cap : Nat) (h : Heap) (hs : SlT encN 4 a smallL h) (w : World) (hw : Holds h w) :
    Calls Tryz.prog 33 #[.slice a 5 cap] w fun e w' => e = .returned (.tuple #[.string (S smallT), .int .i64 0]) ∧ Below w.heap.size w w' := by
  have := print_any a cap smallL h hs w hw (fun _ => itoa_sm w) (fun _ => short_sm)
  rw [w_print] at this
  exact this
theorem classify_small1 (a : Option Addr) (cap : Nat) (h : Heap) (hs : SlT encN 4 a smallL h) (w : World) (hw : Holds h w) :
    Calls Tryz.prog 22 #[.slice a 5 cap, .agg ⟨[.int .u64 1, .int .u64 0]⟩] w fun e w' => e = .returned (.bool true) ∧ Below w.heap.size w w' := by
  have := classify_any a cap smallL (1, 0) (by constructor <;> decide) h hs w hw
  rw [w_class1] at this
  exact this
theorem classify_small3 (a : Option Addr) (cap : Nat) (h : Heap) (hs : SlT encN 4 a smallL h) (w : World) (hw : Holds h w) :
    Calls Tryz.prog 22 #[.slice a 5 cap, .agg ⟨[.int .u64 3, .int .u64 0]⟩] w fun e w' => e = .returned (.bool false) ∧ Below w.heap.size w w' := by
  have := classify_any a cap smallL (3, 0) (by constructor <;> decide) h hs w hw
  rw [w_class3] at this
  exact this
theorem check_small1 (a : Option Addr) (cap : Nat) (h : Heap) (hs : SlT encN 4 a smallL h) (w : World) (hw : Holds h w) :
    Calls Tryz.prog 21 #[.slice a 5 cap, .int .i64 1] w fun e w' => e = .returned (.int .i64 1) ∧ Below w.heap.size w w' := by
  have := check_any a cap smallL 1 h hs w hw
  rw [w_check1] at this
  exact this
theorem vote_small (b : Nat) (a : Option Addr) (cap : Nat) (h : Heap) (hs : SlT encN 4 a smallL h) (w : World) (hw : Holds ([(b, .cells ⟨[.slice a 5 cap]⟩ 23 (0, 0))] ++ h) w) :
    Calls Tryz.prog 31 #[.slice (some ⟨b, 0, none⟩) 1 1, .agg ⟨[.int .u64 1, .int .u64 0]⟩] w fun e w' => e = .returned (.bool true) ∧ Below w.heap.size w w' := by
  have ho : OwT encTV 1 23 (some ⟨b, 0, none⟩) 1 [(⟨a, cap, smallL⟩ : TV)] [(b, .cells ⟨[.slice a 5 cap]⟩ 23 (0, 0))] := ⟨fun _ => rfl, .inr ⟨b, _, rfl, rfl, rfl, Nat.le_refl _, rfl⟩⟩
  have := vote_any (some ⟨b, 0, none⟩) 1 [(⟨a, cap, smallL⟩ : TV)] (1, 0) (by constructor <;> decide) _ (ho.sl.mono (fun x hx => List.mem_append_left h hx)) (fun t ht => by
    obtain rfl : t = ⟨a, cap, smallL⟩ := by simpa using ht
    exact hs.mono (fun x hx => List.mem_append_right _ hx)) (Nat.le_of_ble_eq_true rfl) w hw
  rw [votesOf, votesOf, w_class1] at this
  exact this
theorem eParse : Entr Tryz.prog 29 := Entr.of Tryz.func29 rfl rfl
theorem ePrint : Entr Tryz.prog 33 := Entr.of Tryz.func33 rfl rfl
theorem eSmall : Entr Tryz.prog 30 := Entr.of Tryz.func30 rfl rfl
theorem eGiven : Entr Tryz.prog 9 := Entr.of Tryz.func9 rfl rfl
theorem eSame : Entr Tryz.prog 34 := Entr.of Tryz.func34 rfl rfl
theorem eVote : Entr Tryz.prog 31 := Entr.of Tryz.func31 rfl rfl
theorem works_any (w : World) : Calls Tryz.prog 7 #[] w fun e w' => e = .returned (.bool true) ∧ Below w.heap.size w w' := by
  refine calls_of_JC (R := []) Tryz.func7 Tryz.ntmps7 rfl rfl (Holds.nil _) ?_
  repeat' first
    | (refine J.isJ ?_; first | (first | (first | (refine J.o 0 ?_; refine J.ev' hΓ ?_) | refine J.nil ?_ | (refine J.o 3 ?_; first | refine J.ev' hΓ ?_) | (refine J.o 8 ?_; refine J.bd hΓ ?_) | (refine J.o 9 ?_; refine J.bl hΓ (fun _ => ?_)) | (refine J.o 10 ?_; first | refine J.ev' hΓ ?_) | (refine J.o 11 ?_; first | refine J.eS ?_ | refine J.ev' hΓ ?_))) | (refine J.fn 29 rfl ?_; refine J.call1 eParse rfl rfl (fun w hw => parse_small w) ?_; rintro _ hp ⟨ap, cp, rfl, op⟩) | (refine J.fn 30 rfl ?_; refine J.call1 eSmall rfl rfl (fun w hw => small_any w) ?_; rintro _ hq ⟨aq, cq, rfl, oq⟩) | (refine J.fn 33 rfl ?_; refine J.call0 ePrint rfl rfl (fun w hw => print_small aq cq hq oq.sl w (hw.rdH RdH.hd)) ?_) | (refine J.fn 9 rfl ?_; refine J.call1 eGiven rfl rfl (fun w hw => given_any _ _ smallL _ (by first | assumption | exact OwT.sl (by assumption)) (by decide) w (hw.rdH ((by first | exact RdH.hd | exact RdH.hd.tl | exact RdH.hd.tl.tl | exact RdH.hd.tl.tl.tl | exact RdH.hd.tl.tl.tl.tl | exact RdH.hd.tl.tl.tl.tl.tl | exact RdH.hd.tl.tl.tl.tl.tl.tl | exact RdH.hd.tl.tl.tl.tl.tl.tl.tl | exact RdH.old (fun _ hh => hh) | assumption)))) ?_; rintro _ hg ⟨ag, cg, rfl, og⟩) | (refine J.fn 34 rfl ?_; refine J.call0 eSame rfl rfl (fun w hw => w_same ▸ same_any _ _ _ _ smallL smallL _ _ (by first | assumption | exact OwT.sl (by assumption)) (by first | assumption | exact OwT.sl (by assumption)) w (hw.rdH ((by first | exact RdH.hd | exact RdH.hd.tl | exact RdH.hd.tl.tl | exact RdH.hd.tl.tl.tl | exact RdH.hd.tl.tl.tl.tl | exact RdH.hd.tl.tl.tl.tl.tl | exact RdH.hd.tl.tl.tl.tl.tl.tl | exact RdH.hd.tl.tl.tl.tl.tl.tl.tl | exact RdH.old (fun _ hh => hh) | assumption))) (hw.rdH ((by first | exact RdH.hd | exact RdH.hd.tl | exact RdH.hd.tl.tl | exact RdH.hd.tl.tl.tl | exact RdH.hd.tl.tl.tl.tl | exact RdH.hd.tl.tl.tl.tl.tl | exact RdH.hd.tl.tl.tl.tl.tl.tl | exact RdH.hd.tl.tl.tl.tl.tl.tl.tl | exact RdH.old (fun _ hh => hh) | assumption))) (by decide) (by decide)) ?_) | (refine J.fn 22 rfl ?_; first | refine J.call0 eClassify rfl rfl (fun w hw => classify_small1 _ _ _ op.sl w (hw.rdH ((by first | exact RdH.hd | exact RdH.hd.tl | exact RdH.hd.tl.tl | exact RdH.hd.tl.tl.tl | exact RdH.hd.tl.tl.tl.tl | exact RdH.hd.tl.tl.tl.tl.tl | exact RdH.hd.tl.tl.tl.tl.tl.tl | exact RdH.hd.tl.tl.tl.tl.tl.tl.tl | exact RdH.old (fun _ hh => hh) | assumption)))) ?_ | refine J.call0 eClassify rfl rfl (fun w hw => classify_small3 _ _ _ op.sl w (hw.rdH ((by first | exact RdH.hd | exact RdH.hd.tl | exact RdH.hd.tl.tl | exact RdH.hd.tl.tl.tl | exact RdH.hd.tl.tl.tl.tl | exact RdH.hd.tl.tl.tl.tl.tl | exact RdH.hd.tl.tl.tl.tl.tl.tl | exact RdH.hd.tl.tl.tl.tl.tl.tl.tl | exact RdH.old (fun _ hh => hh) | assumption)))) ?_) | (refine J.fn 21 rfl ?_; refine J.call0 eCheck rfl rfl (fun w hw => check_small1 _ _ _ op.sl w (hw.rdH ((by first | exact RdH.hd | exact RdH.hd.tl | exact RdH.hd.tl.tl | exact RdH.hd.tl.tl.tl | exact RdH.hd.tl.tl.tl.tl | exact RdH.hd.tl.tl.tl.tl.tl | exact RdH.hd.tl.tl.tl.tl.tl.tl | exact RdH.hd.tl.tl.tl.tl.tl.tl.tl | exact RdH.old (fun _ hh => hh) | assumption)))) ?_) | (refine J.fn 31 rfl ?_; refine J.call0 eVote rfl rfl (fun w hw => vote_small _ _ _ hp op.sl w (hw.rdH (RdH.append RdH.hd ((by first | exact RdH.hd | exact RdH.hd.tl | exact RdH.hd.tl.tl | exact RdH.hd.tl.tl.tl | exact RdH.hd.tl.tl.tl.tl | exact RdH.hd.tl.tl.tl.tl.tl | exact RdH.hd.tl.tl.tl.tl.tl.tl | exact RdH.hd.tl.tl.tl.tl.tl.tl.tl | exact RdH.old (fun _ hh => hh) | assumption))))) ?_))
    | (first | refine JC.seq ?_ | refine JC.region ?_ | refine JC.ret ?_ | refine thenK.nn ?_)
    | fail
  all_goals exact ret1f rfl rfl rfl (fun w1 hw => ⟨rfl, hw.below⟩)
end Go.Proofs.YtdiciemlbhkilaaGreatDoor
namespace Go.Proofs.YtdiciemlbhkilaaGreatDoor
open Go Go.Cx Go.RowKit
set_option linter.unusedVariables false
set_option linter.unusedSimpArgs false
set_option maxHeartbeats 4000000
attribute [local irreducible] J JC thenK blockK loopK roundK drawK retK QW Qt pel List.set Calls
theorem eWorks : Entr Tryz.prog 7 := Entr.of Tryz.func7 rfl rfl
end Go.Proofs.YtdiciemlbhkilaaGreatDoor
namespace Go.Proofs.YtdiciemlbhkilaaGreatDoor
open Go Go.Cx
set_option linter.unusedVariables false
set_option linter.unusedSimpArgs false
def cn1 (x : Nd) (j : Nat) : Int := if x.v = 0 then 0 else (if x.no = j then 1 else 0) + (if x.yes = j then 1 else 0)
def cn : List Nd → Nat → Int
  | [], _ => 0
  | x :: xs, j => cn1 x j + cn xs j
theorem cn_app : ∀ (xs ys : List Nd) (j : Nat), cn (xs ++ ys) j = cn xs j + cn ys j
  | [], ys, j => by simp [cn]
  | x :: xs, ys, j => by simp only [List.cons_append, cn, cn_app xs ys j]; omega
theorem cn1_nonneg (x : Nd) (j : Nat) : 0 ≤ cn1 x j := by
  unfold cn1
  split
  · omega
  · split <;> split <;> omega
theorem cn_nonneg : ∀ (xs : List Nd) (j : Nat), 0 ≤ cn xs j
  | [], j => by simp [cn]
  | x :: xs, j => by
    have := cn_nonneg xs j
    have := cn1_nonneg x j
    simp only [cn]; omega
theorem bump_get (ps : List Int) (x : Nd) (hv : x.v ≠ 0) (h0 : 0 ≤ x.no) (h1 : x.no < ps.length) (h2 : 0 ≤ x.yes) (h3 : x.yes < ps.length) (j : Nat) (hj : j < ps.length) :
    ((ps.set x.no.toNat (ps.getD x.no.toNat default + 1)).set x.yes.toNat ((ps.set x.no.toNat (ps.getD x.no.toNat default + 1)).getD x.yes.toNat default + 1)).getD j default = ps.getD j default + cn1 x j := by
  unfold cn1
  rw [if_neg hv, getD_set, getD_set, getD_set]
  simp only [List.length_set]
  by_cases e1 : x.no = j <;> by_cases e2 : x.yes = j
  · have e3 : x.no.toNat = j := by omega
    have e4 : x.yes.toNat = j := by omega
    rw [e3, e4, if_pos ⟨rfl, hj⟩, if_pos ⟨rfl, hj⟩, if_pos e1, if_pos e2]; omega
  · have e3 : x.no.toNat = j := by omega
    have e4 : ¬ (x.yes.toNat = j ∧ j < ps.length) := by omega
    rw [if_neg e4, e3, if_pos ⟨rfl, hj⟩, if_pos e1, if_neg e2]; omega
  · have e3 : ¬ (x.no.toNat = j ∧ j < ps.length) := by omega
    have e4 : x.yes.toNat = j := by omega
    rw [e4, if_pos ⟨rfl, hj⟩, if_neg e3, if_neg e1, if_pos e2]; omega
  · have e3 : ¬ (x.no.toNat = j ∧ j < ps.length) := by omega
    have e4 : ¬ (x.yes.toNat = j ∧ j < ps.length) := by omega
    rw [if_neg e4, if_neg e3, if_neg e1, if_neg e2]; omega
theorem prL_get {n size : Int} : ∀ (xs : List Nd) (k : Nat) (ps : List Int), (ps.length : Int) = size → (∀ j, j < xs.length → fmd (xs.getD j default) (k + j) n size = true) →
    ∃ ps', prL n size xs k ps = some ps' ∧ ps'.length = ps.length ∧ ∀ j, j < ps.length → ps'.getD j default = ps.getD j default + cn xs j
  | [], k, ps, hl, hf => ⟨ps, rfl, rfl, fun j _ => by simp [cn]⟩
  | x :: xs, k, ps, hl, hf => by
    have hx : fmd x k n size = true := by simpa using hf 0 (by simp)
    have hxs : ∀ j, j < xs.length → fmd (xs.getD j default) ((k + 1 : Nat) + j) n size = true := fun j hj => by
      have := hf (j + 1) (by simpa using hj)
      rw [show (((k + 1 : Nat) : Int) + j) = (k : Int) + ((j + 1 : Nat) : Int) by omega]
      simpa using this
    rw [prL, if_neg (by rw [hx]; decide)]
    by_cases hv : x.v = 0
    · rw [if_pos hv]
      obtain ⟨ps', h1, h2, h3⟩ := prL_get xs (k + 1) ps hl hxs
      exact ⟨ps', h1, h2, fun j hj => by rw [h3 j hj, cn, cn1, if_pos hv]; omega⟩
    · rw [if_neg hv]
      obtain ⟨_, _, _, a1, a2, a3, a4⟩ := fmd_q hx hv
      have hle : ((ps.set x.no.toNat (ps.getD x.no.toNat default + 1)).set x.yes.toNat ((ps.set x.no.toNat (ps.getD x.no.toNat default + 1)).getD x.yes.toNat default + 1)).length = ps.length := by simp only [List.length_set]
      obtain ⟨ps', h1, h2, h3⟩ := prL_get xs (k + 1) ((ps.set x.no.toNat (ps.getD x.no.toNat default + 1)).set x.yes.toNat ((ps.set x.no.toNat (ps.getD x.no.toNat default + 1)).getD x.yes.toNat default + 1)) (by rw [hle]; exact hl) hxs
      rw [hle] at h2 h3
      exact ⟨ps', h1, h2, fun j hj => by rw [h3 j hj, bump_get ps x hv (by omega) (by omega) (by omega) (by omega) j hj, cn]; omega⟩
theorem oneL_iff (ps : List Int) : ∀ (m k : Nat), oneL ps k m = true ↔ ∀ j, k ≤ j → j < k + m → ps.getD j default = 1
  | 0, k => by simp only [oneL, true_iff]; intro j h1 h2; omega
  | m + 1, k => by
    rw [oneL, Bool.and_eq_true, decide_eq_true_iff, oneL_iff ps m (k + 1)]
    constructor
    · rintro ⟨h1, h2⟩ j h3 h4
      rcases Nat.eq_or_lt_of_le h3 with rfl | h5
      · exact h1
      · exact h2 j h5 (by omega)
    · exact fun h => ⟨h k (Nat.le_refl _) (by omega), fun j h3 h4 => h j (by omega) (by omega)⟩
theorem tail_fmd {n size : Int} {x : Nd} {xs : List Nd} {k : Nat} (hf : ∀ j, j < (x :: xs).length → fmd ((x :: xs).getD j default) (k + j) n size = true) : ∀ j, j < xs.length → fmd (xs.getD j default) ((k + 1 : Nat) + j) n size = true := fun j hj => by
  have := hf (j + 1) (by simpa using hj)
  rw [show (((k + 1 : Nat) : Int) + j) = (k : Int) + ((j + 1 : Nat) : Int) by omega]
  simpa using this
theorem cn_zero {n size : Int} : ∀ (xs : List Nd) (k : Nat), (∀ j, j < xs.length → fmd (xs.getD j default) (k + j) n size = true) → ∀ t, t ≤ k → cn xs t = 0
  | [], k, hf, t, ht => rfl
  | x :: xs, k, hf, t, ht => by
    have hx : fmd x k n size = true := by simpa using hf 0 (by simp)
    rw [cn, cn_zero xs (k + 1) (tail_fmd hf) t (by omega), cn1]
    by_cases hv : x.v = 0
    · rw [if_pos hv]; rfl
    · obtain ⟨_, _, _, a1, a2, a3, a4⟩ := fmd_q hx hv
      rw [if_neg hv, if_neg (by omega), if_neg (by omega)]; rfl
def Fm (ts : List Nd) (n : Int) : Prop := ∀ j : Nat, j < ts.length → fmd (ts.getD j default) j n ts.length = true
theorem formedR_iff {ts : List Nd} {n : Int} (hf : Fm ts n) : formedR ts n = true ↔ ∀ j : Nat, 1 ≤ j → j < ts.length → cn ts j = 1 := by
  obtain ⟨ps', h1, h2, h3⟩ := prL_get (n := n) (size := ts.length) ts 0 (List.replicate ts.length 0) (by simp) (fun j hj => by simpa using hf j hj)
  unfold formedR
  rw [h1]
  simp only
  rw [oneL_iff]
  have h4 : ∀ j, j < ts.length → ps'.getD j default = cn ts j := fun j hj => by
    rw [h3 j (by simpa using hj)]
    have : (List.replicate ts.length (0 : Int)).getD j default = 0 := by
      rw [List.getD_eq_getElem?_getD, List.getElem?_replicate]
      split <;> rfl
    omega
  constructor
  · exact fun h j h5 h6 => by rw [← h4 j h6]; exact h j h5 (by omega)
  · exact fun h j h5 h6 => by rw [h4 j (by omega)]; exact h j h5 (by omega)
end Go.Proofs.YtdiciemlbhkilaaGreatDoor
namespace Go.Proofs.YtdiciemlbhkilaaGreatDoor
open Go Go.Cx
set_option linter.unusedVariables false
set_option linter.unusedSimpArgs false
def Ed (ts : List Nd) (p c : Nat) : Prop := p < ts.length ∧ (ts.getD p default).v ≠ 0 ∧ ((ts.getD p default).no = c ∨ (ts.getD p default).yes = c)
inductive Pr (ts : List Nd) : Nat → Nat → Prop
  | one {p c : Nat} : Ed ts p c → Pr ts p c
  | cons {p q c : Nat} : Ed ts p q → Pr ts q c → Pr ts p c
theorem Pr.snoc {ts : List Nd} {p q c : Nat} (h : Pr ts p q) (e : Ed ts q c) : Pr ts p c := by
  induction h with
  | one e1 => exact .cons e1 (.one e)
  | cons e1 _ ih => exact .cons e1 (ih e)
theorem Pr.last {ts : List Nd} {p c : Nat} (h : Pr ts p c) : ∃ q, Ed ts q c ∧ (p = q ∨ Pr ts p q) := by
  induction h with
  | one e => exact ⟨_, e, .inl rfl⟩
  | cons e _ ih =>
    obtain ⟨q, h1, h2⟩ := ih
    rcases h2 with rfl | h2
    · exact ⟨_, h1, .inr (.one e)⟩
    · exact ⟨q, h1, .inr (.cons e h2)⟩
theorem Pr.start {ts : List Nd} {p c : Nat} (h : Pr ts p c) : p < ts.length ∧ (ts.getD p default).v ≠ 0 := by
  cases h with
  | one e => exact ⟨e.1, e.2.1⟩
  | cons e _ => exact ⟨e.1, e.2.1⟩
theorem Ed.lt {ts : List Nd} {n : Int} (hf : Fm ts n) {p c : Nat} (e : Ed ts p c) : p < c ∧ c < ts.length := by
  obtain ⟨h1, h2, h3⟩ := e
  obtain ⟨_, _, _, a1, a2, a3, a4⟩ := fmd_q (hf p h1) h2
  rcases h3 with h3 | h3 <;> omega
theorem Pr.lt {ts : List Nd} {n : Int} (hf : Fm ts n) {p c : Nat} (h : Pr ts p c) : p < c ∧ c < ts.length := by
  induction h with
  | one e => exact e.lt hf
  | cons e _ ih => have := e.lt hf; omega
theorem leads_iff {ts : List Nd} {n : Int} (hf : Fm ts n) (v : Int) (hv : v ≠ 0) : ∀ (f c : Nat), c < ts.length → ts.length - c ≤ f → (leadsN ts v f c = true ↔ ∃ d, (d = c ∨ Pr ts c d) ∧ (ts.getD d default).v = v)
  | 0, c, h1, h2 => by omega
  | f + 1, c, h1, h2 => by
    rw [leadsN, Int.toNat_natCast]
    by_cases hc : (ts.getD c default).v = 0
    · rw [if_pos hc]
      constructor
      · intro h; cases h
      · rintro ⟨d, rfl | hp, hd⟩
        · omega
        · exact absurd hc hp.start.2
    · rw [if_neg hc]
      obtain ⟨_, _, _, a1, a2, a3, a4⟩ := fmd_q (hf c h1) hc
      have e1 : ((ts.getD c default).no.toNat : Int) = (ts.getD c default).no := Int.toNat_of_nonneg (by omega)
      have e2 : ((ts.getD c default).yes.toNat : Int) = (ts.getD c default).yes := Int.toNat_of_nonneg (by omega)
      have i1 := leads_iff hf v hv f (ts.getD c default).no.toNat (by omega) (by omega)
      have i2 := leads_iff hf v hv f (ts.getD c default).yes.toNat (by omega) (by omega)
      rw [e1] at i1
      rw [e2] at i2
      rw [Bool.or_eq_true, Bool.or_eq_true, decide_eq_true_iff, i1, i2]
      constructor
      · rintro ((h | ⟨d, h3, h4⟩) | ⟨d, h3, h4⟩)
        · exact ⟨c, .inl rfl, h⟩
        · have e : Ed ts c (ts.getD c default).no.toNat := ⟨h1, hc, .inl e1.symm⟩
          rcases h3 with rfl | h3
          · exact ⟨_, .inr (.one e), h4⟩
          · exact ⟨d, .inr (.cons e h3), h4⟩
        · have e : Ed ts c (ts.getD c default).yes.toNat := ⟨h1, hc, .inr e2.symm⟩
          rcases h3 with rfl | h3
          · exact ⟨_, .inr (.one e), h4⟩
          · exact ⟨d, .inr (.cons e h3), h4⟩
      · rintro ⟨d, rfl | hp, hd⟩
        · exact .inl (.inl hd)
        · have key : ∀ q, Ed ts c q → (d = q ∨ Pr ts q d) → ((ts.getD c default).v = v ∨ ∃ d, (d = (ts.getD c default).no.toNat ∨ Pr ts (ts.getD c default).no.toNat d) ∧ (ts.getD d default).v = v) ∨ ∃ d, (d = (ts.getD c default).yes.toNat ∨ Pr ts (ts.getD c default).yes.toNat d) ∧ (ts.getD d default).v = v := by
            rintro q ⟨_, _, hq | hq⟩ hh
            · have : q = (ts.getD c default).no.toNat := by omega
              exact .inl (.inr ⟨d, this ▸ hh, hd⟩)
            · have : q = (ts.getD c default).yes.toNat := by omega
              exact .inr ⟨d, this ▸ hh, hd⟩
          cases hp with
          | one e => exact key d e (.inl rfl)
          | cons e h => exact key _ e (.inr h)
theorem ldL_iff {ts : List Nd} {n : Int} (hf : Fm ts n) : ∀ (m k : Nat), k + m = ts.length → (ldL ts k m = true ↔ ∀ p, k ≤ p → p < ts.length → (ts.getD p default).v ≠ 0 → ¬ ∃ d, Pr ts p d ∧ (ts.getD d default).v = (ts.getD p default).v)
  | 0, k, h => by
    simp only [ldL, true_iff]
    intro p h1 h2
    omega
  | m + 1, k, h => by
    have hk : k < ts.length := by omega
    rw [ldL, Bool.and_eq_true, ldL_iff hf m (k + 1) (by omega)]
    have hone : ((!(decide (0 < (ts.getD k default).v) && (leadsN ts (ts.getD k default).v ts.length (ts.getD k default).no || leadsN ts (ts.getD k default).v ts.length (ts.getD k default).yes))) = true) ↔ ((ts.getD k default).v ≠ 0 → ¬ ∃ d, Pr ts k d ∧ (ts.getD d default).v = (ts.getD k default).v) := by
      by_cases hv : (ts.getD k default).v = 0
      · have : decide (0 < (ts.getD k default).v) = false := decide_eq_false (by omega)
        rw [this, Bool.false_and]
        exact ⟨fun _ h => absurd hv h, fun _ => rfl⟩
      · obtain ⟨_, hp, _, a1, a2, a3, a4⟩ := fmd_q (hf k hk) hv
        have e1 : ((ts.getD k default).no.toNat : Int) = (ts.getD k default).no := Int.toNat_of_nonneg (by omega)
        have e2 : ((ts.getD k default).yes.toNat : Int) = (ts.getD k default).yes := Int.toNat_of_nonneg (by omega)
        have i1 := leads_iff hf _ hv ts.length (ts.getD k default).no.toNat (by omega) (by omega)
        have i2 := leads_iff hf _ hv ts.length (ts.getD k default).yes.toNat (by omega) (by omega)
        rw [e1] at i1
        rw [e2] at i2
        rw [decide_eq_true hp, Bool.true_and, Bool.not_eq_true', Bool.or_eq_false_iff, ← Bool.not_eq_true, ← Bool.not_eq_true, i1, i2]
        constructor
        · rintro ⟨h3, h4⟩ _ ⟨d, hd, he⟩
          have key : ∀ q, Ed ts k q → (d = q ∨ Pr ts q d) → False := by
            rintro q ⟨_, _, hq | hq⟩ hh
            · have : q = (ts.getD k default).no.toNat := by omega
              exact h3 ⟨d, this ▸ hh, he⟩
            · have : q = (ts.getD k default).yes.toNat := by omega
              exact h4 ⟨d, this ▸ hh, he⟩
          cases hd with
          | one e => exact key d e (.inl rfl)
          | cons e h => exact key _ e (.inr h)
        · intro h3
          have h4 := h3 hv
          refine ⟨?_, ?_⟩
          · rintro ⟨d, hd, he⟩
            have e : Ed ts k (ts.getD k default).no.toNat := ⟨hk, hv, .inl e1.symm⟩
            rcases hd with rfl | hd
            · exact h4 ⟨_, .one e, he⟩
            · exact h4 ⟨d, .cons e hd, he⟩
          · rintro ⟨d, hd, he⟩
            have e : Ed ts k (ts.getD k default).yes.toNat := ⟨hk, hv, .inr e2.symm⟩
            rcases hd with rfl | hd
            · exact h4 ⟨_, .one e, he⟩
            · exact h4 ⟨d, .cons e hd, he⟩
    rw [hone]
    constructor
    · rintro ⟨h1, h2⟩ p h3 h4
      rcases Nat.eq_or_lt_of_le h3 with rfl | h5
      · exact h1
      · exact h2 p h5 h4
    · exact fun h => ⟨h k (Nat.le_refl _) hk, fun p h3 h4 => h p (by omega) h4⟩
end Go.Proofs.YtdiciemlbhkilaaGreatDoor
namespace Go.Proofs.YtdiciemlbhkilaaGreatDoor
open Go Go.Cx
set_option linter.unusedVariables false
set_option linter.unusedSimpArgs false
theorem has_with (s : Nat × Nat) (v u : Int) (hv : 1 ≤ v ∧ v ≤ 128) : hasB (withS s v) u = true ↔ (hasB s u = true ∨ u = v) := by
  unfold hasB withS
  by_cases h1 : 1 ≤ v ∧ v ≤ 64
  · rw [if_pos h1]
    by_cases h2 : 1 ≤ u ∧ u ≤ 64
    · rw [if_pos h2, if_pos h2]
      simp only [Nat.testBit_or, Nat.testBit_two_pow, Bool.or_eq_true, decide_eq_true_iff]
      constructor
      · rintro (h | h)
        · exact .inl h
        · exact .inr (by omega)
      · rintro (h | h)
        · exact .inl h
        · exact .inr (by omega)
    · rw [if_neg h2, if_neg h2]
      exact ⟨.inl, fun h => h.elim id (fun h => by omega)⟩
  · rw [if_neg h1, if_pos (show 65 ≤ v ∧ v ≤ 128 by omega)]
    by_cases h2 : 1 ≤ u ∧ u ≤ 64
    · rw [if_pos h2, if_pos h2]
      exact ⟨.inl, fun h => h.elim id (fun h => by omega)⟩
    · rw [if_neg h2, if_neg h2]
      by_cases h3 : 65 ≤ u ∧ u ≤ 128
      · rw [if_pos h3, if_pos h3]
        simp only [Nat.testBit_or, Nat.testBit_two_pow, Bool.or_eq_true, decide_eq_true_iff]
        constructor
        · rintro (h | h)
          · exact .inl h
          · exact .inr (by omega)
        · rintro (h | h)
          · exact .inl h
          · exact .inr (by omega)
      · rw [if_neg h3, if_neg h3]
        exact ⟨.inl, fun h => h.elim id (fun h => by omega)⟩
theorem cn_ge : ∀ (xs : List Nd) (i j : Nat), i < xs.length → cn1 (xs.getD i default) j ≤ cn xs j
  | x :: xs, 0, j, _ => by
    have := cn_nonneg xs j
    simp only [cn, List.getD_cons_zero]; omega
  | x :: xs, i + 1, j, h => by
    have := cn_ge xs i j (by simpa using h)
    have := cn1_nonneg x j
    simp only [cn, List.getD_cons_succ]; omega
theorem cn_at (ts : List Nd) (k j : Nat) (hk : k < ts.length) : cn ts j = cn (ts.take k) j + cn1 (ts.getD k default) j + cn (ts.drop (k + 1)) j := by
  have h1 : ts = ts.take k ++ (ts.getD k default :: ts.drop (k + 1)) := by rw [← drop_one ts k hk, List.take_append_drop]
  have h2 := congrArg (fun l => cn l j) h1
  simp only [cn_app, cn] at h2
  omega
theorem cn_take (ts : List Nd) (k j : Nat) (hk : k < ts.length) : cn (ts.take (k + 1)) j = cn (ts.take k) j + cn1 (ts.getD k default) j := by
  rw [← take_one ts k hk, cn_app]; simp [cn]
theorem cn1_ed {ts : List Nd} {p c : Nat} (e : Ed ts p c) : 1 ≤ cn1 (ts.getD p default) c := by
  obtain ⟨_, h2, h3⟩ := e
  unfold cn1
  rw [if_neg h2]
  rcases h3 with h3 | h3
  · rw [if_pos h3]; split <;> omega
  · rw [if_pos h3]; split <;> omega
theorem ed_one {ts : List Nd} {p q c : Nat} (hc : cn ts c = 1) (e1 : Ed ts p c) (e2 : Ed ts q c) (hlt : p < q) : False := by
  have h1 := cn_at ts q c e2.1
  have h2 := cn1_ed e2
  have h3 := cn_ge (ts.take q) p c (by rw [List.length_take]; have := e2.1; omega)
  have h4 : (ts.take q).getD p default = ts.getD p default := by
    rw [List.getD_eq_getElem?_getD, List.getElem?_take, if_pos hlt, ← List.getD_eq_getElem?_getD]
  rw [h4] at h3
  have h5 := cn1_ed e1
  have h6 := cn_nonneg (ts.drop (q + 1)) c
  omega
end Go.Proofs.YtdiciemlbhkilaaGreatDoor
