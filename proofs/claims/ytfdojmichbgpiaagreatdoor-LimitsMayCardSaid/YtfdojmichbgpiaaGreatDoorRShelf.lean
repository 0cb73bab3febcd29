import Derived.Shelf.Bytes.WriteByteAt
import Derived.Shelf.Bytes.WriteStringAt
import Derived.Shelf.Bytes.WriteAt
import Derived.Shelf.Slices.SearchI
import Derived.Shelf.Bytes.SlSearch0
import Derived.Shelf.SlSortCmp.NoneTotal
import Derived.Shelf.SlicesG.Cmp
import Derived.Test.YtfdojmichbgpiaaGreatDoorProg
namespace Go.Proofs
open Go.Shelf
open Go.RowKit in
open Go.RowKit in
open Go.RowKit in
open Go.RowKit in
open Go.RowKit in
open Go.RowKit in
open Go.RowKit in
open Go.RowKit in
open Go.RowKit in
open Go.RowKit in
open Go.RowKit in
def Tryz.aaN:Go.Shelf.Ren:=⟨λ|179=>99|251=>141|252=>142|181=>204|184=>205|290=>206|324=>269|n=>n,λ|130=>195|5=>5|75=>133|0=>0|93=>129|91=>127|3=>3|131=>182|4=>4|37=>28|20=>20|80=>416|9=>9|n=>n,λ|14=>0|n=>n⟩
theorem Tryz.aaM:Go.Proofs.LaysM.n179 Tryz.prog Tryz.aaN:={
 mixed:=by kernel_rfl
 f179:=Tryz.func99.trans (congrArg some (by kernel_rfl))
 f181:=Tryz.func204.trans (congrArg some (by kernel_rfl))
 f184:=Tryz.func205.trans (congrArg some (by kernel_rfl))
 f251:=Tryz.func141.trans (congrArg some (by kernel_rfl))
 f252:=Tryz.func142.trans (congrArg some (by kernel_rfl))
 f290:=Tryz.func206.trans (congrArg some (by kernel_rfl))
 f324:=Tryz.func269.trans (congrArg some (by kernel_rfl))
 t0:=Tryz.underlying0
 a0:=Tryz.isAgg0
 z0:=Tryz.sizeOf0
 v0:=Tryz.zeroValue0
 t3:=Tryz.underlying3
 a3:=Tryz.isAgg3
 z3:=Tryz.sizeOf3
 v3:=Tryz.zeroValue3
 t4:=Tryz.underlying4
 a4:=Tryz.isAgg4
 z4:=Tryz.sizeOf4
 v4:=Tryz.zeroValue4
 t5:=Tryz.underlying5
 a5:=Tryz.isAgg5
 z5:=Tryz.sizeOf5
 v5:=Tryz.zeroValue5
 t20:=Tryz.underlying20
 a20:=Tryz.isAgg20
 z20:=Tryz.sizeOf20
 v20:=Tryz.zeroValue20
 t37:=Tryz.underlying28
 a37:=Tryz.isAgg28
 z37:=Tryz.sizeOf28
 v37:=Tryz.zeroValue28
 t75:=Tryz.underlying133
 a75:=Tryz.isAgg133
 z75:=Tryz.sizeOf133
 v75:=Tryz.zeroValue133
 t91:=Tryz.underlying127
 a91:=Tryz.isAgg127
 z91:=Tryz.sizeOf127
 v91:=Tryz.zeroValue127
 t93:=Tryz.underlying129
 a93:=Tryz.isAgg129
 z93:=Tryz.sizeOf129
 v93:=Tryz.zeroValue129
 t130:=Tryz.underlying195
 a130:=Tryz.isAgg195
 z130:=Tryz.sizeOf195
 v130:=Tryz.zeroValue195
 t131:=Tryz.underlying182
 a131:=Tryz.isAgg182
 z131:=Tryz.sizeOf182
 v131:=Tryz.zeroValue182
 g14:=by kernel_rfl
 t9:=Tryz.underlying9
 a9:=Tryz.isAgg9
 z9:=Tryz.sizeOf9
 v9:=Tryz.zeroValue9
 t80:=Tryz.underlying416
 a80:=Tryz.isAgg416
 z80:=Tryz.sizeOf416
 v80:=Tryz.zeroValue416
 i0:=by kernel_rfl
 i3:=by kernel_rfl
 i4:=by kernel_rfl
 i5:=by kernel_rfl
 i9:=by kernel_rfl
 i20:=by kernel_rfl
 i37:=by kernel_rfl
 i75:=by kernel_rfl
 i80:=by kernel_rfl
 i91:=by kernel_rfl
 i93:=by kernel_rfl
 i130:=by kernel_rfl
 i131:=by kernel_rfl
 m14:=by kernel_rfl}
open Go.RowKit in
theorem Tryz.Buffer_WriteByte_at(T:TypeId)(R:Nat->Option Value)(B b q:Nat)(bs:List Value)(c:Int)(w:World)(h:LibA.IsBuffer T R 5 B b q bs w)(hBw:B<=w.heap.size)(h1:∀v∈bs,v.oneCell'=true)(hlim:bs.length+1<=140737488355328):
 Calls Tryz.prog 99 #[.pointer (some ⟨b,q,none⟩),.int .u8 c] w λe w'=>e=.returned .nilIface/\LibA.IsBuffer T R 5 B b q (bs++[.int .u8 c]) w'/\Below B w w'/\Lib.OthersKept 5 (some b) w w':=Any.Buffer_WriteByte_at Tryz.aaM T R B b q bs c w h hBw h1 hlim
def Tryz.aaL:Go.Shelf.Ren:=⟨λ|178=>77|251=>141|252=>142|181=>204|184=>205|290=>206|324=>269|n=>n,λ|130=>195|9=>9|3=>3|75=>133|0=>0|93=>129|91=>127|131=>182|4=>4|37=>28|20=>20|80=>416|5=>5|n=>n,λ|14=>0|n=>n⟩
theorem Tryz.aaK:Go.Proofs.LaysM.n178 Tryz.prog Tryz.aaL:={
 mixed:=by kernel_rfl
 f178:=Tryz.func77.trans (congrArg some (by kernel_rfl))
 f181:=Tryz.func204.trans (congrArg some (by kernel_rfl))
 f184:=Tryz.func205.trans (congrArg some (by kernel_rfl))
 f251:=Tryz.func141.trans (congrArg some (by kernel_rfl))
 f252:=Tryz.func142.trans (congrArg some (by kernel_rfl))
 f290:=Tryz.func206.trans (congrArg some (by kernel_rfl))
 f324:=Tryz.func269.trans (congrArg some (by kernel_rfl))
 t0:=Tryz.underlying0
 a0:=Tryz.isAgg0
 z0:=Tryz.sizeOf0
 v0:=Tryz.zeroValue0
 t3:=Tryz.underlying3
 a3:=Tryz.isAgg3
 z3:=Tryz.sizeOf3
 v3:=Tryz.zeroValue3
 t4:=Tryz.underlying4
 a4:=Tryz.isAgg4
 z4:=Tryz.sizeOf4
 v4:=Tryz.zeroValue4
 t9:=Tryz.underlying9
 a9:=Tryz.isAgg9
 z9:=Tryz.sizeOf9
 v9:=Tryz.zeroValue9
 t20:=Tryz.underlying20
 a20:=Tryz.isAgg20
 z20:=Tryz.sizeOf20
 v20:=Tryz.zeroValue20
 t37:=Tryz.underlying28
 a37:=Tryz.isAgg28
 z37:=Tryz.sizeOf28
 v37:=Tryz.zeroValue28
 t75:=Tryz.underlying133
 a75:=Tryz.isAgg133
 z75:=Tryz.sizeOf133
 v75:=Tryz.zeroValue133
 t91:=Tryz.underlying127
 a91:=Tryz.isAgg127
 z91:=Tryz.sizeOf127
 v91:=Tryz.zeroValue127
 t93:=Tryz.underlying129
 a93:=Tryz.isAgg129
 z93:=Tryz.sizeOf129
 v93:=Tryz.zeroValue129
 t130:=Tryz.underlying195
 a130:=Tryz.isAgg195
 z130:=Tryz.sizeOf195
 v130:=Tryz.zeroValue195
 t131:=Tryz.underlying182
 a131:=Tryz.isAgg182
 z131:=Tryz.sizeOf182
 v131:=Tryz.zeroValue182
 g14:=by kernel_rfl
 t5:=Tryz.underlying5
 a5:=Tryz.isAgg5
 z5:=Tryz.sizeOf5
 v5:=Tryz.zeroValue5
 t80:=Tryz.underlying416
 a80:=Tryz.isAgg416
 z80:=Tryz.sizeOf416
 v80:=Tryz.zeroValue416
 i0:=by kernel_rfl
 i3:=by kernel_rfl
 i4:=by kernel_rfl
 i5:=by kernel_rfl
 i9:=by kernel_rfl
 i20:=by kernel_rfl
 i37:=by kernel_rfl
 i75:=by kernel_rfl
 i80:=by kernel_rfl
 i91:=by kernel_rfl
 i93:=by kernel_rfl
 i130:=by kernel_rfl
 i131:=by kernel_rfl
 m14:=by kernel_rfl}
open Go.RowKit in
theorem Tryz.Buffer_WriteString_at(T:TypeId)(R:Nat->Option Value)(B b q:Nat)(bs:List Value)(s:ByteArray)(w:World)(h:LibA.IsBuffer T R 5 B b q bs w)(hBw:B<=w.heap.size)(h1:∀v∈bs,v.oneCell'=true)(hlim:bs.length+s.size<=140737488355328):
 Calls Tryz.prog 77 #[.pointer (some ⟨b,q,none⟩),.string s] w λe w'=>e=.returned (.tuple #[.int .i64 s.size,.nilIface])/\LibA.IsBuffer T R 5 B b q (bs++Lib.byteCells s.data.toList) w'/\Below B w w'/\Lib.OthersKept 5 (some b) w w':=Any.Buffer_WriteString_at Tryz.aaK T R B b q bs s w h hBw h1 hlim
def Tryz.aaP:Go.Shelf.Ren:=⟨λ|180=>78|251=>141|252=>142|181=>204|184=>205|290=>206|324=>269|n=>n,λ|130=>195|37=>28|3=>3|75=>133|0=>0|93=>129|91=>127|131=>182|4=>4|20=>20|5=>5|80=>416|9=>9|n=>n,λ|14=>0|n=>n⟩
theorem Tryz.aaO:Go.Proofs.LaysM.n180 Tryz.prog Tryz.aaP:={
 mixed:=by kernel_rfl
 f180:=Tryz.func78.trans (congrArg some (by kernel_rfl))
 f181:=Tryz.func204.trans (congrArg some (by kernel_rfl))
 f184:=Tryz.func205.trans (congrArg some (by kernel_rfl))
 f251:=Tryz.func141.trans (congrArg some (by kernel_rfl))
 f252:=Tryz.func142.trans (congrArg some (by kernel_rfl))
 f290:=Tryz.func206.trans (congrArg some (by kernel_rfl))
 f324:=Tryz.func269.trans (congrArg some (by kernel_rfl))
 t0:=Tryz.underlying0
 a0:=Tryz.isAgg0
 z0:=Tryz.sizeOf0
 v0:=Tryz.zeroValue0
 t3:=Tryz.underlying3
 a3:=Tryz.isAgg3
 z3:=Tryz.sizeOf3
 v3:=Tryz.zeroValue3
 t4:=Tryz.underlying4
 a4:=Tryz.isAgg4
 z4:=Tryz.sizeOf4
 v4:=Tryz.zeroValue4
 t20:=Tryz.underlying20
 a20:=Tryz.isAgg20
 z20:=Tryz.sizeOf20
 v20:=Tryz.zeroValue20
 t37:=Tryz.underlying28
 a37:=Tryz.isAgg28
 z37:=Tryz.sizeOf28
 v37:=Tryz.zeroValue28
 t75:=Tryz.underlying133
 a75:=Tryz.isAgg133
 z75:=Tryz.sizeOf133
 v75:=Tryz.zeroValue133
 t91:=Tryz.underlying127
 a91:=Tryz.isAgg127
 z91:=Tryz.sizeOf127
 v91:=Tryz.zeroValue127
 t93:=Tryz.underlying129
 a93:=Tryz.isAgg129
 z93:=Tryz.sizeOf129
 v93:=Tryz.zeroValue129
 t130:=Tryz.underlying195
 a130:=Tryz.isAgg195
 z130:=Tryz.sizeOf195
 v130:=Tryz.zeroValue195
 t131:=Tryz.underlying182
 a131:=Tryz.isAgg182
 z131:=Tryz.sizeOf182
 v131:=Tryz.zeroValue182
 g14:=by kernel_rfl
 t5:=Tryz.underlying5
 a5:=Tryz.isAgg5
 z5:=Tryz.sizeOf5
 v5:=Tryz.zeroValue5
 t9:=Tryz.underlying9
 a9:=Tryz.isAgg9
 z9:=Tryz.sizeOf9
 v9:=Tryz.zeroValue9
 t80:=Tryz.underlying416
 a80:=Tryz.isAgg416
 z80:=Tryz.sizeOf416
 v80:=Tryz.zeroValue416
 i0:=by kernel_rfl
 i3:=by kernel_rfl
 i4:=by kernel_rfl
 i5:=by kernel_rfl
 i9:=by kernel_rfl
 i20:=by kernel_rfl
 i37:=by kernel_rfl
 i75:=by kernel_rfl
 i80:=by kernel_rfl
 i91:=by kernel_rfl
 i93:=by kernel_rfl
 i130:=by kernel_rfl
 i131:=by kernel_rfl
 m14:=by kernel_rfl}
open Go.RowKit in
theorem Tryz.Buffer_Write_at(T:TypeId)(R:Nat->Option Value)(B b q:Nat)(bs cs:List Value)(a:Addr)(n c:Nat)(w:World)(h:LibA.IsBuffer T R 5 B b q bs w)(hBw:B<=w.heap.size)(h1:∀v∈bs,v.oneCell'=true)(hn:cs.length=n)(hab:a.block≠b)(hsrc:∀j v,cs[j]? =some v->w.cell? (a.add j)=some v)(h1c:∀v∈cs,v.oneCell'=true)(hlim:bs.length+n<=140737488355328):
 Calls Tryz.prog 78 #[.pointer (some ⟨b,q,none⟩),.slice (some a) n c] w λe w'=>e=.returned (.tuple #[.int .i64 n,.nilIface])/\LibA.IsBuffer T R 5 B b q (bs++cs) w'/\Below B w w'/\Lib.OthersKept 5 (some b) w w':=Any.Buffer_Write_at Tryz.aaO T R B b q bs cs a n c w h hBw h1 hn hab hsrc h1c hlim
open Go.RowKit Go.Lib in
def Tryz.aaJ:Go.Shelf.Ren:=⟨λ|187=>295|255=>341|n=>n,λ|37=>28|5=>5|3=>3|n=>n,λ|n=>n⟩
theorem Tryz.aaI:Go.Proofs.Lays.n187 Tryz.prog Tryz.aaJ:={
 mixed:=by kernel_rfl
 f187:=Tryz.func295.trans (congrArg some (by kernel_rfl))
 f255:=Tryz.func341.trans (congrArg some (by kernel_rfl))
 t3:=Tryz.underlying3
 a3:=Tryz.isAgg3
 z3:=Tryz.sizeOf3
 v3:=Tryz.zeroValue3
 t5:=Tryz.underlying5
 a5:=Tryz.isAgg5
 z5:=Tryz.sizeOf5
 v5:=Tryz.zeroValue5
 t37:=Tryz.underlying28
 a37:=Tryz.isAgg28
 z37:=Tryz.sizeOf28
 v37:=Tryz.zeroValue28}
open Go.RowKit Go.Lib in
theorem Tryz.bytes_IndexByte_at(a:Addr)(n c:Nat)(xs:List Int)(cv:Int)(w:World)(hx:xs.length=n)(hc:∀i,i<n->w.cell? (a.add i)=some (.int .u8 (xs.getD i 0))):
 Calls Tryz.prog 295 #[.slice (some a) n c,.int .u8 cv] w λe w'=>e=.returned (.int .i64 (Lib.indexByte (Lib.bytesOf xs) cv.toNat.toUInt8))/\w'=w:=Any.bytes_IndexByte_at Tryz.aaI a n c xs cv w hx hc
open Go.Proofs Go.RowKit Go.Lib in
open Go.Proofs Go.RowKit Go.Lib in
def Tryz.ahE:Go.Shelf.Ren:=⟨λ|6=>266|15=>255|14=>321|28=>308|29=>309|20=>355|21=>356|22=>357|23=>358|24=>359|25=>360|26=>361|27=>362|46=>375|47=>345|48=>346|49=>376|50=>377|57=>381|n=>n,λ|22=>314|24=>317|25=>324|3=>3|39=>209|0=>0|53=>360|55=>362|4=>4|46=>354|45=>353|50=>182|5=>5|9=>9|66=>387|70=>225|76=>408|77=>33|n=>n,λ|n=>n⟩
theorem Tryz.ahD:Go.Proofs.SlLaysF0.n6 Tryz.prog Tryz.ahE:={
 mixed:=by kernel_rfl
 f6:=⟨Tryz.f266.name,by decide,Tryz.func266.trans (congrArg some (by kernel_rfl))⟩
 f14:=⟨Tryz.f321.name,by decide,Tryz.func321.trans (congrArg some (by kernel_rfl))⟩
 f15:=Tryz.func255.trans (congrArg some (by kernel_rfl))
 f20:=⟨Tryz.f355.name,by decide,Tryz.func355.trans (congrArg some (by kernel_rfl))⟩
 f21:=⟨Tryz.f356.name,by decide,Tryz.func356.trans (congrArg some (by kernel_rfl))⟩
 f22:=⟨Tryz.f357.name,by decide,Tryz.func357.trans (congrArg some (by kernel_rfl))⟩
 f23:=⟨Tryz.f358.name,by decide,Tryz.func358.trans (congrArg some (by kernel_rfl))⟩
 f24:=⟨Tryz.f359.name,by decide,Tryz.func359.trans (congrArg some (by kernel_rfl))⟩
 f25:=⟨Tryz.f360.name,by decide,Tryz.func360.trans (congrArg some (by kernel_rfl))⟩
 f26:=⟨Tryz.f361.name,by decide,Tryz.func361.trans (congrArg some (by kernel_rfl))⟩
 f27:=⟨Tryz.f362.name,by decide,Tryz.func362.trans (congrArg some (by kernel_rfl))⟩
 f28:=Tryz.func308.trans (congrArg some (by kernel_rfl))
 f29:=Tryz.func309.trans (congrArg some (by kernel_rfl))
 f46:=⟨Tryz.f375.name,by decide,Tryz.func375.trans (congrArg some (by kernel_rfl))⟩
 f47:=Tryz.func345.trans (congrArg some (by kernel_rfl))
 f48:=Tryz.func346.trans (congrArg some (by kernel_rfl))
 f49:=⟨Tryz.f376.name,by decide,Tryz.func376.trans (congrArg some (by kernel_rfl))⟩
 f50:=⟨Tryz.f377.name,by decide,Tryz.func377.trans (congrArg some (by kernel_rfl))⟩
 f57:=⟨Tryz.f381.name,by decide,Tryz.func381.trans (congrArg some (by kernel_rfl))⟩
 t0:=Tryz.underlying0
 a0:=Tryz.isAgg0
 z0:=Tryz.sizeOf0
 v0:=Tryz.zeroValue0
 t3:=Tryz.underlying3
 a3:=Tryz.isAgg3
 z3:=Tryz.sizeOf3
 v3:=Tryz.zeroValue3
 t4:=Tryz.underlying4
 a4:=Tryz.isAgg4
 z4:=Tryz.sizeOf4
 v4:=Tryz.zeroValue4
 t5:=Tryz.underlying5
 a5:=Tryz.isAgg5
 z5:=Tryz.sizeOf5
 v5:=Tryz.zeroValue5
 t9:=Tryz.underlying9
 a9:=Tryz.isAgg9
 z9:=Tryz.sizeOf9
 v9:=Tryz.zeroValue9
 t22:=Tryz.underlying314
 a22:=Tryz.isAgg314
 z22:=Tryz.sizeOf314
 v22:=Tryz.zeroValue314
 t25:=Tryz.underlying324
 a25:=Tryz.isAgg324
 z25:=Tryz.sizeOf324
 v25:=Tryz.zeroValue324
 t39:=Tryz.underlying209
 a39:=Tryz.isAgg209
 z39:=Tryz.sizeOf209
 v39:=Tryz.zeroValue209
 t45:=Tryz.underlying353
 a45:=Tryz.isAgg353
 z45:=Tryz.sizeOf353
 v45:=Tryz.zeroValue353
 t46:=Tryz.underlying354
 a46:=Tryz.isAgg354
 z46:=Tryz.sizeOf354
 v46:=Tryz.zeroValue354
 t50:=Tryz.underlying182
 a50:=Tryz.isAgg182
 z50:=Tryz.sizeOf182
 v50:=Tryz.zeroValue182
 t53:=Tryz.underlying360
 a53:=Tryz.isAgg360
 z53:=Tryz.sizeOf360
 v53:=Tryz.zeroValue360
 t55:=Tryz.underlying362
 a55:=Tryz.isAgg362
 z55:=Tryz.sizeOf362
 v55:=Tryz.zeroValue362
 t66:=Tryz.underlying387
 a66:=Tryz.isAgg387
 z66:=Tryz.sizeOf387
 v66:=Tryz.zeroValue387
 t70:=Tryz.underlying225
 a70:=Tryz.isAgg225
 z70:=Tryz.sizeOf225
 v70:=Tryz.zeroValue225
 t76:=Tryz.underlying408
 a76:=Tryz.isAgg408
 z76:=Tryz.sizeOf408
 v76:=Tryz.zeroValue408
 t77:=Tryz.underlying33
 a77:=Tryz.isAgg33
 z77:=Tryz.sizeOf33
 v77:=Tryz.zeroValue33}
def Tryz.YF:Go.Shelf.Ren:=⟨λ|5=>247|7=>297|n=>n,λ|22=>3|3=>3|4=>4|n=>n,λ|n=>n⟩
theorem Tryz.YE:Go.Proofs.SlLaysC2.n5 Tryz.prog Tryz.YF:={
 mixed:=by kernel_rfl
 f5:=⟨Tryz.f247.name,by decide,Tryz.func247.trans (congrArg some (by kernel_rfl))⟩
 f7:=⟨Tryz.f297.name,by decide,Tryz.func297.trans (congrArg some (by kernel_rfl))⟩
 t3:=Tryz.underlying3
 a3:=Tryz.isAgg3
 z3:=Tryz.sizeOf3
 v3:=Tryz.zeroValue3
 t4:=Tryz.underlying4
 a4:=Tryz.isAgg4
 z4:=Tryz.sizeOf4
 v4:=Tryz.zeroValue4
 t22:=Tryz.underlying3
 a22:=Tryz.isAgg3
 z22:=Tryz.sizeOf3
 v22:=Tryz.zeroValue3}
end Go.Proofs
