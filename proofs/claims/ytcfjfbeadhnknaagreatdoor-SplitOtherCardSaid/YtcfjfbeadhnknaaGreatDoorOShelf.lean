import Derived.Shelf.Small.Bits
import Derived.Shelf.Strconv.Itoa0
import Derived.Shelf.LaysM
import Derived.Shelf.Bytes.GrowSliceCatch
import Derived.Shelf.Bytes.GrowSlice
import Derived.Shelf.Bytes.LenAt
import Derived.Shelf.Bytes.TryGrowAt
import Derived.Shelf.Bytes.GrowRow0At
import Derived.Shelf.Bytes.GrowRowAt
import Derived.Shelf.Bytes.GrowNilAt
import Derived.Shelf.Bytes.GrowAt
import Derived.Shelf.Bytes.WriteByteAt
import Derived.Shelf.Bytes.WriteStringAt
import Derived.Shelf.Bytes.WriteAt
import Derived.Ground.Names2Prog
import Derived.Shelf.Slices.SearchI
import Derived.Shelf.Bytes.SlIndexAt
import Derived.Shelf.Bytes.SlSearch0
import Derived.Shelf.Bytes.Small
import Derived.Shelf.Bytes.IndexByte
import Derived.Shelf.SlSortCmp.NoneTotal
import Derived.Shelf.Bytes.SlClone
import Derived.Ground.SlsfProg
import Derived.Shelf.SlicesG.Cmp
import Derived.Ground.SlgcProg
import Derived.Test.YtcfjfbeadhnknaaGreatDoorProg
namespace Go.Proofs
open Go.Shelf
open Go.RowKit in
open Go.RowKit in
open Go.RowKit in
open Go.RowKit in
open Go.RowKit in
open Go.RowKit in
open Go.RowKit in
open Go.RowKit in
open Go.RowKit in
open Go.RowKit in
open Go.RowKit in
def Tryz.acZ:Go.Shelf.Ren:=⟨λ|179=>169|251=>183|252=>184|181=>259|184=>260|290=>261|324=>335|n=>n,λ|130=>283|5=>5|75=>198|0=>0|93=>194|91=>192|3=>3|131=>163|4=>4|37=>26|20=>20|80=>555|9=>9|n=>n,λ|14=>0|n=>n⟩
theorem Tryz.acY:Go.Proofs.LaysM.n179 Tryz.prog Tryz.acZ:={
 mixed:=by kernel_rfl
 f179:=Tryz.func169.trans (congrArg some (by kernel_rfl))
 f181:=Tryz.func259.trans (congrArg some (by kernel_rfl))
 f184:=Tryz.func260.trans (congrArg some (by kernel_rfl))
 f251:=Tryz.func183.trans (congrArg some (by kernel_rfl))
 f252:=Tryz.func184.trans (congrArg some (by kernel_rfl))
 f290:=Tryz.func261.trans (congrArg some (by kernel_rfl))
 f324:=Tryz.func335.trans (congrArg some (by kernel_rfl))
 t0:=Tryz.underlying0
 a0:=Tryz.isAgg0
 z0:=Tryz.sizeOf0
 v0:=Tryz.zeroValue0
 t3:=Tryz.underlying3
 a3:=Tryz.isAgg3
 z3:=Tryz.sizeOf3
 v3:=Tryz.zeroValue3
 t4:=Tryz.underlying4
 a4:=Tryz.isAgg4
 z4:=Tryz.sizeOf4
 v4:=Tryz.zeroValue4
 t5:=Tryz.underlying5
 a5:=Tryz.isAgg5
 z5:=Tryz.sizeOf5
 v5:=Tryz.zeroValue5
 t20:=Tryz.underlying20
 a20:=Tryz.isAgg20
 z20:=Tryz.sizeOf20
 v20:=Tryz.zeroValue20
 t37:=Tryz.underlying26
 a37:=Tryz.isAgg26
 z37:=Tryz.sizeOf26
 v37:=Tryz.zeroValue26
 t75:=Tryz.underlying198
 a75:=Tryz.isAgg198
 z75:=Tryz.sizeOf198
 v75:=Tryz.zeroValue198
 t91:=Tryz.underlying192
 a91:=Tryz.isAgg192
 z91:=Tryz.sizeOf192
 v91:=Tryz.zeroValue192
 t93:=Tryz.underlying194
 a93:=Tryz.isAgg194
 z93:=Tryz.sizeOf194
 v93:=Tryz.zeroValue194
 t130:=Tryz.underlying283
 a130:=Tryz.isAgg283
 z130:=Tryz.sizeOf283
 v130:=Tryz.zeroValue283
 t131:=Tryz.underlying163
 a131:=Tryz.isAgg163
 z131:=Tryz.sizeOf163
 v131:=Tryz.zeroValue163
 g14:=by kernel_rfl
 t9:=Tryz.underlying9
 a9:=Tryz.isAgg9
 z9:=Tryz.sizeOf9
 v9:=Tryz.zeroValue9
 t80:=Tryz.underlying555
 a80:=Tryz.isAgg555
 z80:=Tryz.sizeOf555
 v80:=Tryz.zeroValue555
 i0:=by kernel_rfl
 i3:=by kernel_rfl
 i4:=by kernel_rfl
 i5:=by kernel_rfl
 i9:=by kernel_rfl
 i20:=by kernel_rfl
 i37:=by kernel_rfl
 i75:=by kernel_rfl
 i80:=by kernel_rfl
 i91:=by kernel_rfl
 i93:=by kernel_rfl
 i130:=by kernel_rfl
 i131:=by kernel_rfl
 m14:=by kernel_rfl}
open Go.RowKit in
theorem Tryz.Buffer_WriteByte_at(T:TypeId)(R:Nat->Option Value)(B b q:Nat)(bs:List Value)(c:Int)(w:World)(h:LibA.IsBuffer T R 5 B b q bs w)(hBw:B<=w.heap.size)(h1:∀v∈bs,v.oneCell'=true)(hlim:bs.length+1<=140737488355328):
 Calls Tryz.prog 169 #[.pointer (some ⟨b,q,none⟩),.int .u8 c] w λe w'=>e=.returned .nilIface/\LibA.IsBuffer T R 5 B b q (bs++[.int .u8 c]) w'/\Below B w w'/\Lib.OthersKept 5 (some b) w w':=Any.Buffer_WriteByte_at Tryz.acY T R B b q bs c w h hBw h1 hlim
def Tryz.acX:Go.Shelf.Ren:=⟨λ|178=>118|251=>183|252=>184|181=>259|184=>260|290=>261|324=>335|n=>n,λ|130=>283|9=>9|3=>3|75=>198|0=>0|93=>194|91=>192|131=>163|4=>4|37=>26|20=>20|80=>555|5=>5|n=>n,λ|14=>0|n=>n⟩
theorem Tryz.acW:Go.Proofs.LaysM.n178 Tryz.prog Tryz.acX:={
 mixed:=by kernel_rfl
 f178:=Tryz.func118.trans (congrArg some (by kernel_rfl))
 f181:=Tryz.func259.trans (congrArg some (by kernel_rfl))
 f184:=Tryz.func260.trans (congrArg some (by kernel_rfl))
 f251:=Tryz.func183.trans (congrArg some (by kernel_rfl))
 f252:=Tryz.func184.trans (congrArg some (by kernel_rfl))
 f290:=Tryz.func261.trans (congrArg some (by kernel_rfl))
 f324:=Tryz.func335.trans (congrArg some (by kernel_rfl))
 t0:=Tryz.underlying0
 a0:=Tryz.isAgg0
 z0:=Tryz.sizeOf0
 v0:=Tryz.zeroValue0
 t3:=Tryz.underlying3
 a3:=Tryz.isAgg3
 z3:=Tryz.sizeOf3
 v3:=Tryz.zeroValue3
 t4:=Tryz.underlying4
 a4:=Tryz.isAgg4
 z4:=Tryz.sizeOf4
 v4:=Tryz.zeroValue4
 t9:=Tryz.underlying9
 a9:=Tryz.isAgg9
 z9:=Tryz.sizeOf9
 v9:=Tryz.zeroValue9
 t20:=Tryz.underlying20
 a20:=Tryz.isAgg20
 z20:=Tryz.sizeOf20
 v20:=Tryz.zeroValue20
 t37:=Tryz.underlying26
 a37:=Tryz.isAgg26
 z37:=Tryz.sizeOf26
 v37:=Tryz.zeroValue26
 t75:=Tryz.underlying198
 a75:=Tryz.isAgg198
 z75:=Tryz.sizeOf198
 v75:=Tryz.zeroValue198
 t91:=Tryz.underlying192
 a91:=Tryz.isAgg192
 z91:=Tryz.sizeOf192
 v91:=Tryz.zeroValue192
 t93:=Tryz.underlying194
 a93:=Tryz.isAgg194
 z93:=Tryz.sizeOf194
 v93:=Tryz.zeroValue194
 t130:=Tryz.underlying283
 a130:=Tryz.isAgg283
 z130:=Tryz.sizeOf283
 v130:=Tryz.zeroValue283
 t131:=Tryz.underlying163
 a131:=Tryz.isAgg163
 z131:=Tryz.sizeOf163
 v131:=Tryz.zeroValue163
 g14:=by kernel_rfl
 t5:=Tryz.underlying5
 a5:=Tryz.isAgg5
 z5:=Tryz.sizeOf5
 v5:=Tryz.zeroValue5
 t80:=Tryz.underlying555
 a80:=Tryz.isAgg555
 z80:=Tryz.sizeOf555
 v80:=Tryz.zeroValue555
 i0:=by kernel_rfl
 i3:=by kernel_rfl
 i4:=by kernel_rfl
 i5:=by kernel_rfl
 i9:=by kernel_rfl
 i20:=by kernel_rfl
 i37:=by kernel_rfl
 i75:=by kernel_rfl
 i80:=by kernel_rfl
 i91:=by kernel_rfl
 i93:=by kernel_rfl
 i130:=by kernel_rfl
 i131:=by kernel_rfl
 m14:=by kernel_rfl}
open Go.RowKit in
theorem Tryz.Buffer_WriteString_at(T:TypeId)(R:Nat->Option Value)(B b q:Nat)(bs:List Value)(s:ByteArray)(w:World)(h:LibA.IsBuffer T R 5 B b q bs w)(hBw:B<=w.heap.size)(h1:∀v∈bs,v.oneCell'=true)(hlim:bs.length+s.size<=140737488355328):
 Calls Tryz.prog 118 #[.pointer (some ⟨b,q,none⟩),.string s] w λe w'=>e=.returned (.tuple #[.int .i64 s.size,.nilIface])/\LibA.IsBuffer T R 5 B b q (bs++Lib.byteCells s.data.toList) w'/\Below B w w'/\Lib.OthersKept 5 (some b) w w':=Any.Buffer_WriteString_at Tryz.acW T R B b q bs s w h hBw h1 hlim
def Tryz.ac1:Go.Shelf.Ren:=⟨λ|180=>119|251=>183|252=>184|181=>259|184=>260|290=>261|324=>335|n=>n,λ|130=>283|37=>26|3=>3|75=>198|0=>0|93=>194|91=>192|131=>163|4=>4|20=>20|5=>5|80=>555|9=>9|n=>n,λ|14=>0|n=>n⟩
theorem Tryz.ac0:Go.Proofs.LaysM.n180 Tryz.prog Tryz.ac1:={
 mixed:=by kernel_rfl
 f180:=Tryz.func119.trans (congrArg some (by kernel_rfl))
 f181:=Tryz.func259.trans (congrArg some (by kernel_rfl))
 f184:=Tryz.func260.trans (congrArg some (by kernel_rfl))
 f251:=Tryz.func183.trans (congrArg some (by kernel_rfl))
 f252:=Tryz.func184.trans (congrArg some (by kernel_rfl))
 f290:=Tryz.func261.trans (congrArg some (by kernel_rfl))
 f324:=Tryz.func335.trans (congrArg some (by kernel_rfl))
 t0:=Tryz.underlying0
 a0:=Tryz.isAgg0
 z0:=Tryz.sizeOf0
 v0:=Tryz.zeroValue0
 t3:=Tryz.underlying3
 a3:=Tryz.isAgg3
 z3:=Tryz.sizeOf3
 v3:=Tryz.zeroValue3
 t4:=Tryz.underlying4
 a4:=Tryz.isAgg4
 z4:=Tryz.sizeOf4
 v4:=Tryz.zeroValue4
 t20:=Tryz.underlying20
 a20:=Tryz.isAgg20
 z20:=Tryz.sizeOf20
 v20:=Tryz.zeroValue20
 t37:=Tryz.underlying26
 a37:=Tryz.isAgg26
 z37:=Tryz.sizeOf26
 v37:=Tryz.zeroValue26
 t75:=Tryz.underlying198
 a75:=Tryz.isAgg198
 z75:=Tryz.sizeOf198
 v75:=Tryz.zeroValue198
 t91:=Tryz.underlying192
 a91:=Tryz.isAgg192
 z91:=Tryz.sizeOf192
 v91:=Tryz.zeroValue192
 t93:=Tryz.underlying194
 a93:=Tryz.isAgg194
 z93:=Tryz.sizeOf194
 v93:=Tryz.zeroValue194
 t130:=Tryz.underlying283
 a130:=Tryz.isAgg283
 z130:=Tryz.sizeOf283
 v130:=Tryz.zeroValue283
 t131:=Tryz.underlying163
 a131:=Tryz.isAgg163
 z131:=Tryz.sizeOf163
 v131:=Tryz.zeroValue163
 g14:=by kernel_rfl
 t5:=Tryz.underlying5
 a5:=Tryz.isAgg5
 z5:=Tryz.sizeOf5
 v5:=Tryz.zeroValue5
 t9:=Tryz.underlying9
 a9:=Tryz.isAgg9
 z9:=Tryz.sizeOf9
 v9:=Tryz.zeroValue9
 t80:=Tryz.underlying555
 a80:=Tryz.isAgg555
 z80:=Tryz.sizeOf555
 v80:=Tryz.zeroValue555
 i0:=by kernel_rfl
 i3:=by kernel_rfl
 i4:=by kernel_rfl
 i5:=by kernel_rfl
 i9:=by kernel_rfl
 i20:=by kernel_rfl
 i37:=by kernel_rfl
 i75:=by kernel_rfl
 i80:=by kernel_rfl
 i91:=by kernel_rfl
 i93:=by kernel_rfl
 i130:=by kernel_rfl
 i131:=by kernel_rfl
 m14:=by kernel_rfl}
open Go.RowKit in
theorem Tryz.Buffer_Write_at(T:TypeId)(R:Nat->Option Value)(B b q:Nat)(bs cs:List Value)(a:Addr)(n c:Nat)(w:World)(h:LibA.IsBuffer T R 5 B b q bs w)(hBw:B<=w.heap.size)(h1:∀v∈bs,v.oneCell'=true)(hn:cs.length=n)(hab:a.block≠b)(hsrc:∀j v,cs[j]? =some v->w.cell? (a.add j)=some v)(h1c:∀v∈cs,v.oneCell'=true)(hlim:bs.length+n<=140737488355328):
 Calls Tryz.prog 119 #[.pointer (some ⟨b,q,none⟩),.slice (some a) n c] w λe w'=>e=.returned (.tuple #[.int .i64 n,.nilIface])/\LibA.IsBuffer T R 5 B b q (bs++cs) w'/\Below B w w'/\Lib.OthersKept 5 (some b) w w':=Any.Buffer_Write_at Tryz.ac0 T R B b q bs cs a n c w h hBw h1 hn hab hsrc h1c hlim
open Go.RowKit Go.Lib in
def Tryz.acV:Go.Shelf.Ren:=⟨λ|187=>369|255=>432|n=>n,λ|37=>26|5=>5|3=>3|n=>n,λ|n=>n⟩
theorem Tryz.acU:Go.Proofs.Lays.n187 Tryz.prog Tryz.acV:={
 mixed:=by kernel_rfl
 f187:=Tryz.func369.trans (congrArg some (by kernel_rfl))
 f255:=Tryz.func432.trans (congrArg some (by kernel_rfl))
 t3:=Tryz.underlying3
 a3:=Tryz.isAgg3
 z3:=Tryz.sizeOf3
 v3:=Tryz.zeroValue3
 t5:=Tryz.underlying5
 a5:=Tryz.isAgg5
 z5:=Tryz.sizeOf5
 v5:=Tryz.zeroValue5
 t37:=Tryz.underlying26
 a37:=Tryz.isAgg26
 z37:=Tryz.sizeOf26
 v37:=Tryz.zeroValue26}
open Go.RowKit Go.Lib in
theorem Tryz.bytes_IndexByte_at(a:Addr)(n c:Nat)(xs:List Int)(cv:Int)(w:World)(hx:xs.length=n)(hc:∀i,i<n->w.cell? (a.add i)=some (.int .u8 (xs.getD i 0))):
 Calls Tryz.prog 369 #[.slice (some a) n c,.int .u8 cv] w λe w'=>e=.returned (.int .i64 (Lib.indexByte (Lib.bytesOf xs) cv.toNat.toUInt8))/\w'=w:=Any.bytes_IndexByte_at Tryz.acU a n c xs cv w hx hc
open Go.Proofs Go.RowKit Go.Lib in
open Go.Proofs Go.RowKit Go.Lib in
def Tryz.ac3:Go.Shelf.Ren:=⟨λ|4=>94|n=>n,λ|22=>26|4=>4|5=>5|n=>n,λ|n=>n⟩
theorem Tryz.ac2:Go.Proofs.SlLaysK.n4 Tryz.prog Tryz.ac3:={
 mixed:=by kernel_rfl
 f4:=Tryz.func94.trans (congrArg some (by kernel_rfl))
 t4:=Tryz.underlying4
 a4:=Tryz.isAgg4
 z4:=Tryz.sizeOf4
 v4:=Tryz.zeroValue4
 t22:=Tryz.underlying26
 a22:=Tryz.isAgg26
 z22:=Tryz.sizeOf26
 v22:=Tryz.zeroValue26
 t5:=Tryz.underlying5
 i5:=by kernel_rfl}
open Go.RowKit Go.Lib in
theorem Tryz.bytes_Clone_at(a:Addr)(n c:Nat)(xs:List Int)(w:World)(hx:xs.length=n)(hbig:n<=140737488355328)(hc:∀i,i<n->w.cell? (a.add i)=some (.int .u8 (xs.getD i 0))):
 Calls Tryz.prog 94 #[.slice (some a) n c] w λe w'=>∃v',e=.returned v'/\w'.ownsRow w.heap.size 5 1 v' n (xs.map (Value.int .u8))/\v'≠.slice none 0 0/\Below w.heap.size w w':=Any.bytes_Clone_at Tryz.ac2 a n c xs w hx hbig hc
open Go.RowKit Go.Lib in
def Tryz.alF:Go.Shelf.Ren:=⟨λ|6=>332|15=>320|14=>396|28=>381|29=>382|20=>446|21=>447|22=>448|23=>449|24=>450|25=>451|26=>452|27=>453|46=>481|47=>436|48=>437|49=>482|50=>483|57=>495|n=>n,λ|22=>425|24=>385|25=>433|3=>3|39=>340|0=>0|53=>479|55=>481|4=>4|46=>473|45=>472|50=>163|5=>5|9=>9|66=>517|70=>300|76=>545|77=>70|n=>n,λ|n=>n⟩
theorem Tryz.alE:Go.Proofs.SlLaysF0.n6 Tryz.prog Tryz.alF:={
 mixed:=by kernel_rfl
 f6:=⟨Tryz.f332.name,by decide,Tryz.func332.trans (congrArg some (by kernel_rfl))⟩
 f14:=⟨Tryz.f396.name,by decide,Tryz.func396.trans (congrArg some (by kernel_rfl))⟩
 f15:=Tryz.func320.trans (congrArg some (by kernel_rfl))
 f20:=⟨Tryz.f446.name,by decide,Tryz.func446.trans (congrArg some (by kernel_rfl))⟩
 f21:=⟨Tryz.f447.name,by decide,Tryz.func447.trans (congrArg some (by kernel_rfl))⟩
 f22:=⟨Tryz.f448.name,by decide,Tryz.func448.trans (congrArg some (by kernel_rfl))⟩
 f23:=⟨Tryz.f449.name,by decide,Tryz.func449.trans (congrArg some (by kernel_rfl))⟩
 f24:=⟨Tryz.f450.name,by decide,Tryz.func450.trans (congrArg some (by kernel_rfl))⟩
 f25:=⟨Tryz.f451.name,by decide,Tryz.func451.trans (congrArg some (by kernel_rfl))⟩
 f26:=⟨Tryz.f452.name,by decide,Tryz.func452.trans (congrArg some (by kernel_rfl))⟩
 f27:=⟨Tryz.f453.name,by decide,Tryz.func453.trans (congrArg some (by kernel_rfl))⟩
 f28:=Tryz.func381.trans (congrArg some (by kernel_rfl))
 f29:=Tryz.func382.trans (congrArg some (by kernel_rfl))
 f46:=⟨Tryz.f481.name,by decide,Tryz.func481.trans (congrArg some (by kernel_rfl))⟩
 f47:=Tryz.func436.trans (congrArg some (by kernel_rfl))
 f48:=Tryz.func437.trans (congrArg some (by kernel_rfl))
 f49:=⟨Tryz.f482.name,by decide,Tryz.func482.trans (congrArg some (by kernel_rfl))⟩
 f50:=⟨Tryz.f483.name,by decide,Tryz.func483.trans (congrArg some (by kernel_rfl))⟩
 f57:=⟨Tryz.f495.name,by decide,Tryz.func495.trans (congrArg some (by kernel_rfl))⟩
 t0:=Tryz.underlying0
 a0:=Tryz.isAgg0
 z0:=Tryz.sizeOf0
 v0:=Tryz.zeroValue0
 t3:=Tryz.underlying3
 a3:=Tryz.isAgg3
 z3:=Tryz.sizeOf3
 v3:=Tryz.zeroValue3
 t4:=Tryz.underlying4
 a4:=Tryz.isAgg4
 z4:=Tryz.sizeOf4
 v4:=Tryz.zeroValue4
 t5:=Tryz.underlying5
 a5:=Tryz.isAgg5
 z5:=Tryz.sizeOf5
 v5:=Tryz.zeroValue5
 t9:=Tryz.underlying9
 a9:=Tryz.isAgg9
 z9:=Tryz.sizeOf9
 v9:=Tryz.zeroValue9
 t22:=Tryz.underlying425
 a22:=Tryz.isAgg425
 z22:=Tryz.sizeOf425
 v22:=Tryz.zeroValue425
 t25:=Tryz.underlying433
 a25:=Tryz.isAgg433
 z25:=Tryz.sizeOf433
 v25:=Tryz.zeroValue433
 t39:=Tryz.underlying340
 a39:=Tryz.isAgg340
 z39:=Tryz.sizeOf340
 v39:=Tryz.zeroValue340
 t45:=Tryz.underlying472
 a45:=Tryz.isAgg472
 z45:=Tryz.sizeOf472
 v45:=Tryz.zeroValue472
 t46:=Tryz.underlying473
 a46:=Tryz.isAgg473
 z46:=Tryz.sizeOf473
 v46:=Tryz.zeroValue473
 t50:=Tryz.underlying163
 a50:=Tryz.isAgg163
 z50:=Tryz.sizeOf163
 v50:=Tryz.zeroValue163
 t53:=Tryz.underlying479
 a53:=Tryz.isAgg479
 z53:=Tryz.sizeOf479
 v53:=Tryz.zeroValue479
 t55:=Tryz.underlying481
 a55:=Tryz.isAgg481
 z55:=Tryz.sizeOf481
 v55:=Tryz.zeroValue481
 t66:=Tryz.underlying517
 a66:=Tryz.isAgg517
 z66:=Tryz.sizeOf517
 v66:=Tryz.zeroValue517
 t70:=Tryz.underlying300
 a70:=Tryz.isAgg300
 z70:=Tryz.sizeOf300
 v70:=Tryz.zeroValue300
 t76:=Tryz.underlying545
 a76:=Tryz.isAgg545
 z76:=Tryz.sizeOf545
 v76:=Tryz.zeroValue545
 t77:=Tryz.underlying70
 a77:=Tryz.isAgg70
 z77:=Tryz.sizeOf70
 v77:=Tryz.zeroValue70}
def Tryz.aaE:Go.Shelf.Ren:=⟨λ|5=>293|7=>361|n=>n,λ|22=>3|3=>3|4=>4|n=>n,λ|n=>n⟩
theorem Tryz.aaD:Go.Proofs.SlLaysC2.n5 Tryz.prog Tryz.aaE:={
 mixed:=by kernel_rfl
 f5:=⟨Tryz.f293.name,by decide,Tryz.func293.trans (congrArg some (by kernel_rfl))⟩
 f7:=⟨Tryz.f361.name,by decide,Tryz.func361.trans (congrArg some (by kernel_rfl))⟩
 t3:=Tryz.underlying3
 a3:=Tryz.isAgg3
 z3:=Tryz.sizeOf3
 v3:=Tryz.zeroValue3
 t4:=Tryz.underlying4
 a4:=Tryz.isAgg4
 z4:=Tryz.sizeOf4
 v4:=Tryz.zeroValue4
 t22:=Tryz.underlying3
 a22:=Tryz.isAgg3
 z22:=Tryz.sizeOf3
 v22:=Tryz.zeroValue3}
end Go.Proofs
