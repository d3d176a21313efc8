/- A part of the proof: lemmas (my texts, shortened by a program of mine). -/
import Derived.Shelf.Strings.Builder1
import Derived.Shelf.Strings.Builder2
import Derived.Shelf.Strings.OnBuilder
import Derived.Shelf.Strings.BuilderF
import Derived.Shelf.Strings.BuilderK
import Derived.Shelf.Utf8.RuneCount
import Derived.Shelf.Strings.Builder2Cap
import Derived.Shelf.Strconv.Atoi
import Derived.Shelf.Strconv.Itoa0
import Derived.Shelf.Strconv.Itoa1
import Derived.Shelf.LaysM
import Derived.Shelf.Strconv.Itoa2
import Derived.Shelf.Strconv.Itoa3
import Derived.Shelf.Strconv.AtoiErrFast
import Derived.Shelf.Strconv.ParseIntEmpty
import Derived.Shelf.Strconv.AtoiFail
import Derived.Shelf.Strconv.Clone
import Derived.Shelf.Strconv.SyntaxError
import Derived.Shelf.LaysC
import Derived.Shelf.Strconv.ToError
import Derived.Shelf.Strconv.Lower
import Derived.Shelf.Strconv.ParseUint10
import Derived.Shelf.Strconv.ParseUint10Empty
import Derived.Shelf.Strconv.ParseUint10Any
import Derived.Shelf.Strconv.ParseInt10
import Derived.Shelf.Strconv.AtoiLong
import Derived.Shelf.Strconv.AtoiInnerAll
import Derived.Shelf.Strconv.RangeError
import Derived.Shelf.Strconv.ToErrorRange
import Derived.Shelf.Strconv.AtoiAll
import Derived.Shelf.Strconv.ErrVarAll
import Derived.Shelf.Strconv.ParseUintEmpty
import Derived.Shelf.Strconv.ParseUint10b64
import Derived.Shelf.Strconv.ParseUint10b32
import Derived.Shelf.Strconv.ParseUint10b16
import Derived.Shelf.Strconv.ParseUint10b8
import Derived.Shelf.Strconv.ParseUint10At
import Derived.Shelf.Strings.Search1
import Derived.Shelf.Strings.Search2
import Derived.Shelf.Strings.Search3
import Derived.Shelf.Strings.Cut
import Derived.Shelf.Strings.Count
import Derived.Shelf.Strings.Shaped
import Derived.Shelf.Sort.Plain
import Derived.Shelf.Strings.Split
import Derived.Shelf.Strings.SplitShaped
import Derived.Shelf.Unicode.Decode
import Derived.Shelf.Strings.RuneCount
import Derived.Shelf.Strings.Explode
import Derived.Shelf.Unicode.DecodeSlow
import Derived.Shelf.Unicode.DecodeAny
import Derived.Shelf.Strings.BuilderCap
import Derived.Shelf.Slices.Turned
import Derived.Shelf.Slices.CompactI
import Derived.Test.YtkjnhlpccgjfhaaGreatDoorProg
import Derived.Test.YtkjnhlpccgjfhaaGreatDoorC01
set_option linter.all false
set_option maxRecDepth 100000
set_option maxHeartbeats 4000000
namespace Go.Proofs.YtkjnhlpccgjfhaaGreatDoor
open Go.Shelf
open Go.Proofs.Tryz
open Go renaming Calls->aY,Value->ay,World->af
open Go.Ending renaming returned->aV
open Go.Lib renaming countB->iv,cut->h4
open Go.Obj renaming cells->al
open Go.Shelf renaming Ren->lP
open Go.Value renaming bool->aw,int->ed,slice->aa,string->aE,tuple->aL
open List renaming replicate->bE
open Option renaming none->aj,some->Z
open _root_ renaming ByteArray->ch,Int->F,List->aU,Nat->J,congrArg->be,of_decide_eq_true->n3,rfl->I
variable {p q:Prop}
def Tryz.lays156_ren:lP:=⟨λ | 156=>147 | 165=>256 | 166=>257 | 169=>258 | 240=>326 | 241=>327 | 276=>355 | 277=>356 | a=>a,λ | 31=>34 | 9=>9 | 3=>3 | 4=>4 | 0=>0 | 20=>20 | 72=>155 | 76=>76 | 70=>153 | 37=>24 | 75=>75 | 127=>181 | 164=>211 | 5=>5 | 80=>151 | a=>a,λ | a=>a⟩
theorem Tryz.lays156:Go.Proofs.Lays.n156 prog Tryz.lays156_ren:={
 mixed:=ah
 f156:=func147.trans (be Z ah)
 f165:=func256.trans (be Z ah)
 f166:=func257.trans (be Z ah)
 f169:=func258.trans (be Z ah)
 f240:=func326.trans (be Z ah)
 f241:=func327.trans (be Z ah)
 f276:=func355.trans (be Z ah)
 f277:=func356.trans (be Z ah)
 t0:=underlying0
 a0:=Tryz.isAgg0
 z0:=Tryz.sizeOf0
 v0:=Tryz.zeroValue0
 t3:=underlying3
 a3:=Tryz.isAgg3
 z3:=Tryz.sizeOf3
 v3:=Tryz.zeroValue3
 t4:=underlying4
 a4:=Tryz.isAgg4
 z4:=Tryz.sizeOf4
 v4:=Tryz.zeroValue4
 t9:=underlying9
 a9:=Tryz.isAgg9
 z9:=Tryz.sizeOf9
 v9:=Tryz.zeroValue9
 t20:=underlying20
 a20:=Tryz.isAgg20
 z20:=Tryz.sizeOf20
 v20:=Tryz.zeroValue20
 t31:=underlying34
 a31:=Tryz.isAgg34
 z31:=Tryz.sizeOf34
 v31:=Tryz.zeroValue34
 t37:=underlying24
 a37:=Tryz.isAgg24
 z37:=Tryz.sizeOf24
 v37:=Tryz.zeroValue24
 t70:=underlying153
 a70:=Tryz.isAgg153
 z70:=Tryz.sizeOf153
 v70:=Tryz.zeroValue153
 t72:=underlying155
 a72:=Tryz.isAgg155
 z72:=Tryz.sizeOf155
 v72:=Tryz.zeroValue155
 t75:=underlying75
 a75:=Tryz.isAgg75
 z75:=Tryz.sizeOf75
 v75:=Tryz.zeroValue75
 t76:=underlying76
 a76:=Tryz.isAgg76
 z76:=Tryz.sizeOf76
 v76:=Tryz.zeroValue76
 t127:=underlying181
 a127:=Tryz.isAgg181
 z127:=Tryz.sizeOf181
 v127:=Tryz.zeroValue181
 t164:=underlying211
 a164:=Tryz.isAgg211
 z164:=Tryz.sizeOf211
 v164:=Tryz.zeroValue211}
theorem Tryz.Builder_Extra_156:Builder.Extra prog Tryz.lays156_ren:={
 sizeBuilder:=ah
 liesBuilder:=ah
 t5:=underlying5
 a5:=Tryz.isAgg5
 z5:=Tryz.sizeOf5
 v5:=Tryz.zeroValue5
 infoByte:=ah
 cellsByte:=ah
 sizeByte:=ah
 neB5:=by decide}
open Go.RowKit in
theorem Tryz.strings_Join (b f e:J) (a:aU ch) (c:ch) (d:af) (l:∀(g:J) h,a[g]? =Z h-> d.cell? ⟨b,f+g,aj⟩=Z (aE h)) (j:b<d.heap.size) (i:a.length<=140737488355328) (k:a.length<=e) (m:(Lib.join (a.map (·.data.toList)) c.data.toList).length<=140737488355328):
  aC 147 #[aa (Z ⟨b,f,aj⟩) a.length e,aE c] d (aE ⟨(Lib.join (a.map (·.data.toList)) c.data.toList).toArray⟩):=Any.strings_Join Tryz.lays156 Tryz.Builder_Extra_156 b f e a c d l j i k m
def Tryz.laysM171_ren:lP:=⟨λ | 171=>55 | 243=>150 | 246=>264 | 283=>331 | 284=>332 | 285=>333 | 286=>334 | 129=>360 | 317=>359 | 318=>361 | 319=>362 | 320=>363 | 337=>379 | 338=>380 | a=>a,λ | 3=>3 | 9=>9 | 2=>2 | 4=>4 | 171=>188 | 0=>0 | 53=>182 | 37=>24 | 5=>5 | 173=>191 | 212=>219 | 51=>201 | 20=>20 | 213=>220 | 46=>82 | 232=>236 | 233=>237 | a=>a,λ | 17=>5 | 18=>6 | 19=>7 | a=>a⟩
theorem Tryz.laysM171:Go.Proofs.LaysM.n171 prog Tryz.laysM171_ren:={
 mixed:=ah
 f129:=func360.trans (be Z ah)
 f171:=func55.trans (be Z ah)
 f243:=func150.trans (be Z ah)
 f246:=func264.trans (be Z ah)
 f283:=func331.trans (be Z ah)
 f284:=func332.trans (be Z ah)
 f285:=func333.trans (be Z ah)
 f286:=func334.trans (be Z ah)
 f317:=func359.trans (be Z ah)
 f318:=func361.trans (be Z ah)
 f319:=func362.trans (be Z ah)
 f320:=func363.trans (be Z ah)
 f337:=func379.trans (be Z ah)
 f338:=func380.trans (be Z ah)
 t0:=underlying0
 a0:=Tryz.isAgg0
 z0:=Tryz.sizeOf0
 v0:=Tryz.zeroValue0
 t2:=underlying2
 a2:=Tryz.isAgg2
 z2:=Tryz.sizeOf2
 v2:=Tryz.zeroValue2
 t3:=underlying3
 a3:=Tryz.isAgg3
 z3:=Tryz.sizeOf3
 v3:=Tryz.zeroValue3
 t4:=underlying4
 a4:=Tryz.isAgg4
 z4:=Tryz.sizeOf4
 v4:=Tryz.zeroValue4
 t5:=underlying5
 a5:=Tryz.isAgg5
 z5:=Tryz.sizeOf5
 v5:=Tryz.zeroValue5
 t9:=underlying9
 a9:=Tryz.isAgg9
 z9:=Tryz.sizeOf9
 v9:=Tryz.zeroValue9
 t20:=underlying20
 a20:=Tryz.isAgg20
 z20:=Tryz.sizeOf20
 v20:=Tryz.zeroValue20
 t37:=underlying24
 a37:=Tryz.isAgg24
 z37:=Tryz.sizeOf24
 v37:=Tryz.zeroValue24
 t46:=underlying82
 a46:=Tryz.isAgg82
 z46:=Tryz.sizeOf82
 v46:=Tryz.zeroValue82
 t51:=underlying201
 a51:=Tryz.isAgg201
 z51:=Tryz.sizeOf201
 v51:=Tryz.zeroValue201
 t53:=underlying182
 a53:=Tryz.isAgg182
 z53:=Tryz.sizeOf182
 v53:=Tryz.zeroValue182
 t171:=underlying188
 a171:=Tryz.isAgg188
 z171:=Tryz.sizeOf188
 v171:=Tryz.zeroValue188
 t173:=underlying191
 a173:=Tryz.isAgg191
 z173:=Tryz.sizeOf191
 v173:=Tryz.zeroValue191
 t212:=underlying219
 a212:=Tryz.isAgg219
 z212:=Tryz.sizeOf219
 v212:=Tryz.zeroValue219
 t213:=underlying220
 a213:=Tryz.isAgg220
 z213:=Tryz.sizeOf220
 t232:=underlying236
 a232:=Tryz.isAgg236
 z232:=Tryz.sizeOf236
 v232:=Tryz.zeroValue236
 t233:=underlying237
 a233:=Tryz.isAgg237
 z233:=Tryz.sizeOf237
 v233:=Tryz.zeroValue237
 g17:=ah
 g18:=ah
 g19:=ah
 i0:=ah
 i2:=ah
 i3:=ah
 i4:=ah
 i5:=ah
 i9:=ah
 i20:=ah
 i37:=ah
 i46:=ah
 i51:=ah
 i53:=ah
 i171:=ah
 i173:=ah
 i212:=ah
 i232:=ah
 i233:=ah
 m17:=ah
 m18:=ah
 m19:=by kernel_rfl}
open Go.RowKit Go.Sort Go.Lib in
theorem Tryz.strconv_Itoa (a:F) (e: -9223372036854775808<=a) (f:a<=9223372036854775807) (b:af) (g:Lib.TabIs prog b "internal/strconv.uint64pow10" .u64 Lib.pow10Tab):
  aY prog 55 #[M a] b λ d c=>d=aV (aE ⟨(Lib.itoa a).toArray⟩) /\ ∃h i,c=grow (b.drewN h) i:=Any.strconv_Itoa Tryz.laysM171 a e f b g
def Tryz.laysC172_ren:lP:=⟨λ | 172=>54 | 244=>148 | 245=>149 | 247=>259 | 279=>260 | 280=>261 | 281=>262 | 282=>263 | 287=>328 | 316=>329 | 171=>55 | 205=>330 | 321=>357 | 322=>358 | 243=>150 | 246=>264 | 283=>331 | 284=>332 | 285=>333 | 286=>334 | 129=>360 | 317=>359 | 318=>361 | 319=>362 | 320=>363 | 337=>379 | 338=>380 | a=>a,λ | 9=>9 | 3=>3 | 75=>75 | 76=>76 | 4=>4 | 5=>5 | 167=>157 | 37=>24 | 0=>0 | 85=>158 | 2=>2 | 168=>160 | 53=>182 | 175=>183 | 46=>82 | 210=>186 | 127=>181 | 145=>217 | 143=>215 | 21=>21 | 171=>188 | 173=>191 | 212=>219 | 51=>201 | 20=>20 | 213=>220 | 232=>236 | 233=>237 | 80=>151 | a=>a,λ | 15=>1 | 16=>2 | 17=>5 | 18=>6 | 19=>7 | a=>a⟩
theorem Tryz.laysC172:Go.Proofs.LaysC.n172 prog Tryz.laysC172_ren:={
 mixed:=ah
 f129:=func360.trans (be Z ah)
 f171:=func55.trans (be Z ah)
 f172:=func54.trans (be Z ah)
 f205:=func330.trans (be Z ah)
 f243:=func150.trans (be Z ah)
 f244:=func148.trans (be Z ah)
 f245:=func149.trans (be Z ah)
 f246:=func264.trans (be Z ah)
 f247:=func259.trans (be Z ah)
 f279:=func260.trans (be Z ah)
 f280:=func261.trans (be Z ah)
 f281:=func262.trans (be Z ah)
 f282:=func263.trans (be Z ah)
 f283:=func331.trans (be Z ah)
 f284:=func332.trans (be Z ah)
 f285:=func333.trans (be Z ah)
 f286:=func334.trans (be Z ah)
 f287:=func328.trans (be Z ah)
 f316:=func329.trans (be Z ah)
 f317:=func359.trans (be Z ah)
 f318:=func361.trans (be Z ah)
 f319:=func362.trans (be Z ah)
 f320:=func363.trans (be Z ah)
 f321:=func357.trans (be Z ah)
 f322:=func358.trans (be Z ah)
 f337:=func379.trans (be Z ah)
 f338:=func380.trans (be Z ah)
 t0:=underlying0
 a0:=Tryz.isAgg0
 z0:=Tryz.sizeOf0
 v0:=Tryz.zeroValue0
 t2:=underlying2
 a2:=Tryz.isAgg2
 z2:=Tryz.sizeOf2
 v2:=Tryz.zeroValue2
 t3:=underlying3
 a3:=Tryz.isAgg3
 z3:=Tryz.sizeOf3
 v3:=Tryz.zeroValue3
 t4:=underlying4
 a4:=Tryz.isAgg4
 z4:=Tryz.sizeOf4
 v4:=Tryz.zeroValue4
 t5:=underlying5
 a5:=Tryz.isAgg5
 z5:=Tryz.sizeOf5
 v5:=Tryz.zeroValue5
 t9:=underlying9
 a9:=Tryz.isAgg9
 z9:=Tryz.sizeOf9
 v9:=Tryz.zeroValue9
 t20:=underlying20
 a20:=Tryz.isAgg20
 z20:=Tryz.sizeOf20
 v20:=Tryz.zeroValue20
 t21:=underlying21
 a21:=Tryz.isAgg21
 z21:=Tryz.sizeOf21
 v21:=Tryz.zeroValue21
 t37:=underlying24
 a37:=Tryz.isAgg24
 z37:=Tryz.sizeOf24
 v37:=Tryz.zeroValue24
 t46:=underlying82
 a46:=Tryz.isAgg82
 z46:=Tryz.sizeOf82
 v46:=Tryz.zeroValue82
 t51:=underlying201
 a51:=Tryz.isAgg201
 z51:=Tryz.sizeOf201
 v51:=Tryz.zeroValue201
 t53:=underlying182
 a53:=Tryz.isAgg182
 z53:=Tryz.sizeOf182
 v53:=Tryz.zeroValue182
 t75:=underlying75
 a75:=Tryz.isAgg75
 z75:=Tryz.sizeOf75
 v75:=Tryz.zeroValue75
 t76:=underlying76
 a76:=Tryz.isAgg76
 z76:=Tryz.sizeOf76
 v76:=Tryz.zeroValue76
 t85:=underlying158
 a85:=Tryz.isAgg158
 z85:=Tryz.sizeOf158
 v85:=Tryz.zeroValue158
 t127:=underlying181
 a127:=Tryz.isAgg181
 z127:=Tryz.sizeOf181
 v127:=Tryz.zeroValue181
 t143:=underlying215
 a143:=Tryz.isAgg215
 z143:=Tryz.sizeOf215
 v143:=Tryz.zeroValue215
 t145:=underlying217
 a145:=Tryz.isAgg217
 z145:=Tryz.sizeOf217
 v145:=Tryz.zeroValue217
 t167:=underlying157
 a167:=Tryz.isAgg157
 z167:=Tryz.sizeOf157
 v167:=Tryz.zeroValue157
 t168:=underlying160
 a168:=Tryz.isAgg160
 z168:=Tryz.sizeOf160
 v168:=Tryz.zeroValue160
 t171:=underlying188
 a171:=Tryz.isAgg188
 z171:=Tryz.sizeOf188
 v171:=Tryz.zeroValue188
 t173:=underlying191
 a173:=Tryz.isAgg191
 z173:=Tryz.sizeOf191
 v173:=Tryz.zeroValue191
 t175:=underlying183
 a175:=Tryz.isAgg183
 z175:=Tryz.sizeOf183
 v175:=Tryz.zeroValue183
 t210:=underlying186
 a210:=Tryz.isAgg186
 z210:=Tryz.sizeOf186
 v210:=Tryz.zeroValue186
 t212:=underlying219
 a212:=Tryz.isAgg219
 z212:=Tryz.sizeOf219
 v212:=Tryz.zeroValue219
 t213:=underlying220
 a213:=Tryz.isAgg220
 z213:=Tryz.sizeOf220
 t232:=underlying236
 a232:=Tryz.isAgg236
 z232:=Tryz.sizeOf236
 v232:=Tryz.zeroValue236
 t233:=underlying237
 a233:=Tryz.isAgg237
 z233:=Tryz.sizeOf237
 v233:=Tryz.zeroValue237
 g15:=ah
 g16:=ah
 g17:=ah
 g18:=ah
 g19:=ah
 t80:=underlying151
 a80:=Tryz.isAgg151
 z80:=Tryz.sizeOf151
 v80:=Tryz.zeroValue151
 i0:=ah
 i2:=ah
 i3:=ah
 i4:=ah
 i5:=ah
 i9:=ah
 i20:=ah
 i21:=ah
 i37:=ah
 i46:=ah
 i51:=ah
 i53:=ah
 i75:=ah
 i76:=ah
 i80:=ah
 i85:=ah
 i127:=ah
 i143:=ah
 i145:=ah
 i167:=ah
 i168:=ah
 i171:=ah
 i173:=ah
 i175:=ah
 i210:=ah
 i212:=ah
 i232:=ah
 i233:=ah
 m15:=ah
 m16:=ah
 m17:=ah
 m18:=ah
 m19:=ah
 c0:=ah
 c2:=ah
 c3:=ah
 c4:=ah
 c5:=ah
 c9:=ah
 c20:=ah
 c21:=ah
 c37:=ah
 c46:=ah
 c51:=ah
 c53:=ah
 c75:=ah
 c76:=ah
 c80:=ah
 c85:=ah
 c127:=ah
 c143:=ah
 c145:=ah
 c167:=ah
 c168:=ah
 c171:=ah
 c173:=ah
 c175:=ah
 c210:=ah
 c212:=ah
 c213:=ah
 c232:=ah
 c233:=by kernel_rfl}
open Go.RowKit in
theorem Tryz.strconv_Atoi_ok (a:ch) (g:a.size<=9223372036854775806) (c:F) (f:Lib.atoiAll a.data.toList=.ok c) (b:af):
  aY prog 54 #[aE a] b λ e d=>e=aV (aL #[M c,.nilIface]) /\ (d=b \/ ∃h,d=Lib.bytesWorld b 5 h):=Any.strconv_Atoi_ok Tryz.laysC172 a g c f b
open Go.RowKit in
theorem Tryz.strconv_Atoi_syntax_var (a:ch) (i:a.size<=281474976710656) (h:Lib.atoiAll a.data.toList=.«syntax») (e:TypeId) (d:ay) (b:af) (j: b.var? prog "strconv.ErrSyntax" =Z #[.iface e d]):
  aY prog 54 #[aE a] b λ g f=>∃c,g=aV (aL #[M 0,.iface 160 (br c)]) /\ b.heap.size<=c /\ f.heap[c]? =Z (al #[aE ⟨#[65,116,111,105]⟩,aE a,.iface e d] 186 (0,0)) /\ ap b f:=Any.strconv_Atoi_syntax_var Tryz.laysC172 a i h e d b j
open Go.RowKit in
theorem Tryz.strconv_Atoi_range_var (a:ch) (i:a.size<=281474976710656) (h:Lib.atoiAll a.data.toList=.range) (e:TypeId) (d:ay) (b:af) (j: b.var? prog "strconv.ErrRange" =Z #[.iface e d]):
  aY prog 54 #[aE a] b λ g f=>∃c,g=aV (aL #[M (Lib.atoiSat a.data.toList),.iface 160 (br c)]) /\ b.heap.size<=c /\ f.heap[c]? =Z (al #[aE ⟨#[65,116,111,105]⟩,aE a,.iface e d] 186 (0,0)) /\ ap b f:=Any.strconv_Atoi_range_var Tryz.laysC172 a i h e d b j
def Tryz.lays145_ren:lP:=⟨λ | 145=>48 | 220=>120 | 219=>216 | 217=>297 | 225=>298 | 224=>299 | 267=>300 | 266=>345 | 314=>346 | a=>a,λ | 9=>9 | 4=>4 | 59=>72 | 3=>3 | 5=>5 | 46=>82 | 146=>202 | 51=>201 | a=>a,λ | 1=>0 | a=>a⟩
theorem Tryz.lays145:Go.Proofs.Lays.n145 prog Tryz.lays145_ren:={
 mixed:=ah
 f145:=func48.trans (be Z ah)
 f217:=func297.trans (be Z ah)
 f219:=func216.trans (be Z ah)
 f220:=func120.trans (be Z ah)
 f224:=func299.trans (be Z ah)
 f225:=func298.trans (be Z ah)
 f266:=func345.trans (be Z ah)
 f267:=func300.trans (be Z ah)
 f314:=func346.trans (be Z ah)
 t3:=underlying3
 a3:=Tryz.isAgg3
 z3:=Tryz.sizeOf3
 v3:=Tryz.zeroValue3
 t4:=underlying4
 a4:=Tryz.isAgg4
 z4:=Tryz.sizeOf4
 v4:=Tryz.zeroValue4
 t5:=underlying5
 a5:=Tryz.isAgg5
 z5:=Tryz.sizeOf5
 v5:=Tryz.zeroValue5
 t9:=underlying9
 a9:=Tryz.isAgg9
 z9:=Tryz.sizeOf9
 v9:=Tryz.zeroValue9
 t46:=underlying82
 a46:=Tryz.isAgg82
 z46:=Tryz.sizeOf82
 v46:=Tryz.zeroValue82
 t51:=underlying201
 a51:=Tryz.isAgg201
 z51:=Tryz.sizeOf201
 v51:=Tryz.zeroValue201
 t59:=underlying72
 a59:=Tryz.isAgg72
 z59:=Tryz.sizeOf72
 v59:=Tryz.zeroValue72
 t146:=underlying202
 a146:=Tryz.isAgg202
 z146:=Tryz.sizeOf202
 v146:=Tryz.zeroValue202
 g1:=by kernel_rfl}
open Go.RowKit Go.Lib in
theorem Tryz.strings_Cut (a b:ch) (d:F) (c:af) (h:a.size<4294967281) (g: c.cell? (ad 0 0)=Z (M d)):
  aY prog 48 #[aE a,aE b] c λ f e=>f=aV (aL #[aE ⟨(h4 a.data.toList b.data.toList).1.toArray⟩,aE ⟨(h4 a.data.toList b.data.toList).2.1.toArray⟩,aw (h4 a.data.toList b.data.toList).2.2]) /\ ∃i,e=c.drewN i:=Any.strings_Cut Tryz.lays145 a b d c h g
def Tryz.lays189_ren:lP:=⟨λ | 189=>279 | 125=>339 | 257=>338 | 128=>373 | 129=>360 | 294=>364 | 295=>365 | 296=>366 | 297=>367 | 298=>368 | 299=>369 | 216=>370 | 300=>371 | 301=>372 | 328=>381 | 329=>382 | 330=>383 | 331=>384 | 332=>385 | 215=>386 | 343=>389 | a=>a,λ | 28=>27 | 3=>3 | 46=>82 | 0=>0 | 51=>201 | 53=>182 | 4=>4 | 183=>223 | 182=>222 | 131=>67 | 5=>5 | 9=>9 | 218=>230 | 222=>234 | 228=>238 | 229=>239 | a=>a,λ | a=>a⟩
theorem Tryz.lays189:Go.Proofs.Lays.n189 prog Tryz.lays189_ren:={
 mixed:=ah
 f125:=func339.trans (be Z ah)
 f128:=func373.trans (be Z ah)
 f129:=func360.trans (be Z ah)
 f189:=func279.trans (be Z ah)
 f215:=func386.trans (be Z ah)
 f216:=func370.trans (be Z ah)
 f257:=func338.trans (be Z ah)
 f294:=func364.trans (be Z ah)
 f295:=func365.trans (be Z ah)
 f296:=func366.trans (be Z ah)
 f297:=func367.trans (be Z ah)
 f298:=func368.trans (be Z ah)
 f299:=func369.trans (be Z ah)
 f300:=func371.trans (be Z ah)
 f301:=func372.trans (be Z ah)
 f328:=func381.trans (be Z ah)
 f329:=func382.trans (be Z ah)
 f330:=func383.trans (be Z ah)
 f331:=func384.trans (be Z ah)
 f332:=func385.trans (be Z ah)
 f343:=func389.trans (be Z ah)
 t0:=underlying0
 a0:=Tryz.isAgg0
 z0:=Tryz.sizeOf0
 v0:=Tryz.zeroValue0
 t3:=underlying3
 a3:=Tryz.isAgg3
 z3:=Tryz.sizeOf3
 v3:=Tryz.zeroValue3
 t4:=underlying4
 a4:=Tryz.isAgg4
 z4:=Tryz.sizeOf4
 v4:=Tryz.zeroValue4
 t5:=underlying5
 a5:=Tryz.isAgg5
 z5:=Tryz.sizeOf5
 v5:=Tryz.zeroValue5
 t9:=underlying9
 a9:=Tryz.isAgg9
 z9:=Tryz.sizeOf9
 v9:=Tryz.zeroValue9
 t28:=underlying27
 a28:=Tryz.isAgg27
 z28:=Tryz.sizeOf27
 v28:=Tryz.zeroValue27
 t46:=underlying82
 a46:=Tryz.isAgg82
 z46:=Tryz.sizeOf82
 v46:=Tryz.zeroValue82
 t51:=underlying201
 a51:=Tryz.isAgg201
 z51:=Tryz.sizeOf201
 v51:=Tryz.zeroValue201
 t53:=underlying182
 a53:=Tryz.isAgg182
 z53:=Tryz.sizeOf182
 v53:=Tryz.zeroValue182
 t131:=underlying67
 a131:=Tryz.isAgg67
 z131:=Tryz.sizeOf67
 v131:=Tryz.zeroValue67
 t182:=underlying222
 a182:=Tryz.isAgg222
 z182:=Tryz.sizeOf222
 v182:=Tryz.zeroValue222
 t183:=underlying223
 a183:=Tryz.isAgg223
 z183:=Tryz.sizeOf223
 v183:=Tryz.zeroValue223
 t218:=underlying230
 a218:=Tryz.isAgg230
 z218:=Tryz.sizeOf230
 v218:=Tryz.zeroValue230
 t222:=underlying234
 a222:=Tryz.isAgg234
 z222:=Tryz.sizeOf234
 v222:=Tryz.zeroValue234
 t228:=underlying238
 a228:=Tryz.isAgg238
 z228:=Tryz.sizeOf238
 v228:=Tryz.zeroValue238
 t229:=underlying239
 a229:=Tryz.isAgg239
 z229:=Tryz.sizeOf239
 v229:=Tryz.zeroValue239}
open Go.Sort Go.RowKit in
theorem Tryz.slices_Sort_int (fH c d:J) (b:ac) (a:af) (g:Holds (ed .i64) a fH c b.toArray) (h:fH<a.heap.size) (i:b.length<4611686018427387904):
  aY prog 279 #[aa (Z ⟨fH,c,aj⟩) b.length d] a λ f e =>
   f=aV (aL #[]) /\ ∃j k,e=grow (putRow (ed .i64) (Sort.ahead a j) fH c (b.mergeSort λ l m=>decide (l<=m)).toArray) k:=Any.slices_Sort_int Tryz.lays189 fH c d b a g h i
def Tryz.lays146_ren:lP:=⟨λ | 146=>14 | 221=>47 | 268=>117 | 138=>118 | 143=>119 | 195=>213 | 197=>214 | 218=>215 | 219=>216 | 260=>296 | 217=>297 | 225=>298 | 224=>299 | 267=>300 | 266=>345 | 314=>346 | a=>a,λ | 9=>9 | 31=>34 | 3=>3 | 4=>4 | 0=>0 | 105=>145 | 21=>21 | 5=>5 | 46=>82 | 119=>197 | 139=>200 | 138=>199 | 146=>202 | 51=>201 | a=>a,λ | 1=>0 | 3=>3 | 4=>4 | a=>a⟩
theorem Tryz.lays146:Go.Proofs.Lays.n146 prog Tryz.lays146_ren:={
 mixed:=ah
 f138:=func118.trans (be Z ah)
 f143:=func119.trans (be Z ah)
 f146:=func14.trans (be Z ah)
 f195:=func213.trans (be Z ah)
 f197:=func214.trans (be Z ah)
 f217:=func297.trans (be Z ah)
 f218:=func215.trans (be Z ah)
 f219:=func216.trans (be Z ah)
 f221:=func47.trans (be Z ah)
 f224:=func299.trans (be Z ah)
 f225:=func298.trans (be Z ah)
 f260:=func296.trans (be Z ah)
 f266:=func345.trans (be Z ah)
 f267:=func300.trans (be Z ah)
 f268:=func117.trans (be Z ah)
 f314:=func346.trans (be Z ah)
 t0:=underlying0
 a0:=Tryz.isAgg0
 z0:=Tryz.sizeOf0
 v0:=Tryz.zeroValue0
 t3:=underlying3
 a3:=Tryz.isAgg3
 z3:=Tryz.sizeOf3
 v3:=Tryz.zeroValue3
 t4:=underlying4
 a4:=Tryz.isAgg4
 z4:=Tryz.sizeOf4
 v4:=Tryz.zeroValue4
 t5:=underlying5
 a5:=Tryz.isAgg5
 z5:=Tryz.sizeOf5
 v5:=Tryz.zeroValue5
 t9:=underlying9
 a9:=Tryz.isAgg9
 z9:=Tryz.sizeOf9
 v9:=Tryz.zeroValue9
 t21:=underlying21
 a21:=Tryz.isAgg21
 z21:=Tryz.sizeOf21
 v21:=Tryz.zeroValue21
 t31:=underlying34
 a31:=Tryz.isAgg34
 z31:=Tryz.sizeOf34
 v31:=Tryz.zeroValue34
 t46:=underlying82
 a46:=Tryz.isAgg82
 z46:=Tryz.sizeOf82
 v46:=Tryz.zeroValue82
 t51:=underlying201
 a51:=Tryz.isAgg201
 z51:=Tryz.sizeOf201
 v51:=Tryz.zeroValue201
 t105:=underlying145
 a105:=Tryz.isAgg145
 z105:=Tryz.sizeOf145
 v105:=Tryz.zeroValue145
 t119:=underlying197
 a119:=Tryz.isAgg197
 z119:=Tryz.sizeOf197
 t138:=underlying199
 a138:=Tryz.isAgg199
 z138:=Tryz.sizeOf199
 v138:=Tryz.zeroValue199
 t139:=underlying200
 a139:=Tryz.isAgg200
 z139:=Tryz.sizeOf200
 v139:=Tryz.zeroValue200
 t146:=underlying202
 a146:=Tryz.isAgg202
 z146:=Tryz.sizeOf202
 v146:=Tryz.zeroValue202
 g1:=ah
 g3:=ah
 g4:=by kernel_rfl}
open Go.RowKit Go.Lib in
theorem Tryz.strings_Split (a b:ch) (d:F) (c:af) (i:a.size<4294967281) (h: c.cell? (ad 0 0)=Z (M d)) (g:1<=b.size):
  aY prog 14 #[aE a,aE b] c λ f e =>
   f=aV (aq c.heap.size (iv a b+1) (iv a b+1)) /\ e=c.alloc (al ((Lib.splitB b 0 (iv a b) a).map Value.string).toArray 9):=Any.strings_Split Tryz.lays146 ah a b d c i h g
def Tryz.laysM146_ren:lP:=⟨λ | 146=>14 | 221=>47 | 268=>117 | 138=>118 | 143=>119 | 195=>213 | 197=>214 | 218=>215 | 219=>216 | 260=>296 | 217=>297 | 225=>298 | 224=>299 | 267=>300 | 266=>345 | 314=>346 | a=>a,λ | 9=>9 | 31=>34 | 3=>3 | 4=>4 | 0=>0 | 105=>145 | 21=>21 | 5=>5 | 46=>82 | 119=>197 | 139=>200 | 138=>199 | 146=>202 | 51=>201 | a=>a,λ | 1=>0 | 3=>3 | 4=>4 | a=>a⟩
theorem Tryz.laysM146:Go.Proofs.LaysM.n146 prog Tryz.laysM146_ren:={
 mixed:=ah
 f138:=func118.trans (be Z ah)
 f143:=func119.trans (be Z ah)
 f146:=func14.trans (be Z ah)
 f195:=func213.trans (be Z ah)
 f197:=func214.trans (be Z ah)
 f217:=func297.trans (be Z ah)
 f218:=func215.trans (be Z ah)
 f219:=func216.trans (be Z ah)
 f221:=func47.trans (be Z ah)
 f224:=func299.trans (be Z ah)
 f225:=func298.trans (be Z ah)
 f260:=func296.trans (be Z ah)
 f266:=func345.trans (be Z ah)
 f267:=func300.trans (be Z ah)
 f268:=func117.trans (be Z ah)
 f314:=func346.trans (be Z ah)
 t0:=underlying0
 a0:=Tryz.isAgg0
 z0:=Tryz.sizeOf0
 v0:=Tryz.zeroValue0
 t3:=underlying3
 a3:=Tryz.isAgg3
 z3:=Tryz.sizeOf3
 v3:=Tryz.zeroValue3
 t4:=underlying4
 a4:=Tryz.isAgg4
 z4:=Tryz.sizeOf4
 v4:=Tryz.zeroValue4
 t5:=underlying5
 a5:=Tryz.isAgg5
 z5:=Tryz.sizeOf5
 v5:=Tryz.zeroValue5
 t9:=underlying9
 a9:=Tryz.isAgg9
 z9:=Tryz.sizeOf9
 v9:=Tryz.zeroValue9
 t21:=underlying21
 a21:=Tryz.isAgg21
 z21:=Tryz.sizeOf21
 v21:=Tryz.zeroValue21
 t31:=underlying34
 a31:=Tryz.isAgg34
 z31:=Tryz.sizeOf34
 v31:=Tryz.zeroValue34
 t46:=underlying82
 a46:=Tryz.isAgg82
 z46:=Tryz.sizeOf82
 v46:=Tryz.zeroValue82
 t51:=underlying201
 a51:=Tryz.isAgg201
 z51:=Tryz.sizeOf201
 v51:=Tryz.zeroValue201
 t105:=underlying145
 a105:=Tryz.isAgg145
 z105:=Tryz.sizeOf145
 v105:=Tryz.zeroValue145
 t119:=underlying197
 a119:=Tryz.isAgg197
 z119:=Tryz.sizeOf197
 t138:=underlying199
 a138:=Tryz.isAgg199
 z138:=Tryz.sizeOf199
 v138:=Tryz.zeroValue199
 t139:=underlying200
 a139:=Tryz.isAgg200
 z139:=Tryz.sizeOf200
 v139:=Tryz.zeroValue200
 t146:=underlying202
 a146:=Tryz.isAgg202
 z146:=Tryz.sizeOf202
 v146:=Tryz.zeroValue202
 g1:=ah
 g3:=ah
 g4:=ah
 i0:=ah
 i3:=ah
 i4:=ah
 i5:=ah
 i9:=ah
 i21:=ah
 i31:=ah
 i46:=ah
 i51:=ah
 i105:=ah
 i138:=ah
 i139:=ah
 i146:=ah
 m1:=ah
 s1_3:= λ b a=>Go.Proofs.cell_of_shapedOpen_int (zero:=#[M 0]) (t:=3) a (n3 ah) ah I ah ah underlying3
 m3:=ah
 m4:=by kernel_rfl}
def Tryz.lays113_ren:lP:=⟨λ | 113=>337 | a=>a,λ | 28=>27 | 3=>3 | 4=>4 | 9=>9 | 20=>20 | 0=>0 | a=>a,λ | a=>a⟩
theorem Tryz.lays113:Go.Proofs.Lays.n113 prog Tryz.lays113_ren:={
 mixed:=ah
 f113:=func337.trans (be Z ah)
 t0:=underlying0
 a0:=Tryz.isAgg0
 z0:=Tryz.sizeOf0
 v0:=Tryz.zeroValue0
 t3:=underlying3
 a3:=Tryz.isAgg3
 z3:=Tryz.sizeOf3
 v3:=Tryz.zeroValue3
 t4:=underlying4
 a4:=Tryz.isAgg4
 z4:=Tryz.sizeOf4
 v4:=Tryz.zeroValue4
 t9:=underlying9
 a9:=Tryz.isAgg9
 z9:=Tryz.sizeOf9
 v9:=Tryz.zeroValue9
 t20:=underlying20
 a20:=Tryz.isAgg20
 z20:=Tryz.sizeOf20
 v20:=Tryz.zeroValue20
 t28:=underlying27
 a28:=Tryz.isAgg27
 z28:=Tryz.sizeOf27
 v28:=Tryz.zeroValue27}
open Go.Lib in
theorem Tryz.slices_Max_int (d f a g:J) (b:ac) (c:af) (l:0<a) (m:a<=b.length) (j:a<=9223372036854775807) (k:∀e,e<b.length-> c.cell? ⟨d,f+e,aj⟩=Z (M (b.getD e 0))):
  aY prog 337 #[aa (Z ⟨d,f,aj⟩) a g] c λ i h=>i=aV (M (Lib.maxOf (b.take a))) /\ h=c:=Any.slices_Max_int Tryz.lays113 d f a g b c l m j k
def Tryz.laysNm220_ren:lP:=⟨λ | 20=>280 | a=>a,λ | 22=>27 | 3=>3 | 4=>4 | 0=>0 | a=>a,λ | a=>a⟩
theorem Tryz.laysNm220:Go.Proofs.Lays2.n20 prog Tryz.laysNm220_ren:={
 mixed:=ah
 f20:=func280.trans (be Z ah)
 t0:=underlying0
 a0:=Tryz.isAgg0
 z0:=Tryz.sizeOf0
 v0:=Tryz.zeroValue0
 t3:=underlying3
 a3:=Tryz.isAgg3
 z3:=Tryz.sizeOf3
 v3:=Tryz.zeroValue3
 t4:=underlying4
 a4:=Tryz.isAgg4
 z4:=Tryz.sizeOf4
 v4:=Tryz.zeroValue4
 t22:=underlying27
 a22:=Tryz.isAgg27
 z22:=Tryz.sizeOf27
 v22:=Tryz.zeroValue27
 i3:=by kernel_rfl}
open Go.RowKit Go.Lib Go.Sort in
theorem Tryz.slices_Compact_int (fH b c:J) (a:ac) (d:af) (g:Holds (ed .i64) d fH b a.toArray) (i:a.length<=9223372036854775807) (h:a.length<=c):
  aY prog 280 #[aa (Z ⟨fH,b,aj⟩) a.length c] d λ f e=>f=aV (aa (Z ⟨fH,b,aj⟩) (Lib.compact a).length c) /\ ∃j,e=putRow (ed .i64) (Sort.ahead d j) fH b (Lib.compact a++bE (a.length-(Lib.compact a).length) 0).toArray:=Any.slices_Compact_int Tryz.laysNm220 fH b c a d g i h
end Go.Proofs.YtkjnhlpccgjfhaaGreatDoor
