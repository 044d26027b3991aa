import Derived.Shelf.Small.Bits
import Derived.Shelf.Strconv.Itoa0
import Derived.Ground.Names2Prog
import Derived.Shelf.Slices.Clone
import Derived.Shelf.Slices.SearchI
import Derived.Shelf.Slices.Empties
import Derived.Ground.SlgnProg
import Derived.Shelf.SlicesE.Clone
import Derived.Ground.SlgmProg
import Derived.Shelf.SortM.Plain
import Derived.Shelf.SortM.SortNone
import Derived.Test.YtdhcjhfgibmhfaaGreatDoorProg
import Derived.Test.YtdhcjhfgibmhfaaGreatDoorJG3
import Derived.Sort.OwnSortedInts
import Derived.Deep.Onto
import Derived.Test.YtdhcjhfgibmhfaaGreatDoorJG2
set_option linter.unusedVariables false
set_option linter.unusedSimpArgs false
set_option maxRecDepth 10000
set_option maxHeartbeats 8000000
namespace Go.Proofs
open Go.Shelf
def Tryz.laysNm225_ren:Go.Shelf.Ren:=⟨fun | 25=>92 | 31=>129 | 32=>130 | 37=>161 | n=>n,fun | 22=>32 | 3=>3 | 4=>4 | 40=>138 | 0=>0 | n=>n,fun | n=>n⟩
theorem Tryz.laysNm225:Go.Proofs.Lays2.n25 Tryz.prog Tryz.laysNm225_ren:={
 mixed:=by kernel_rfl
 f25:=Tryz.func92.trans (congrArg some (by kernel_rfl))
 f31:=Tryz.func129.trans (congrArg some (by kernel_rfl))
 f32:=Tryz.func130.trans (congrArg some (by kernel_rfl))
 f37:=Tryz.func161.trans (congrArg some (by kernel_rfl))
 t0:=Tryz.underlying0
 a0:=Tryz.isAgg0
 z0:=Tryz.sizeOf0
 v0:=Tryz.zeroValue0
 t3:=Tryz.underlying3
 a3:=Tryz.isAgg3
 z3:=Tryz.sizeOf3
 v3:=Tryz.zeroValue3
 t4:=Tryz.underlying4
 a4:=Tryz.isAgg4
 z4:=Tryz.sizeOf4
 v4:=Tryz.zeroValue4
 t22:=Tryz.underlying32
 a22:=Tryz.isAgg32
 z22:=Tryz.sizeOf32
 v22:=Tryz.zeroValue32
 t40:=Tryz.underlying138
 a40:=Tryz.isAgg138
 z40:=Tryz.sizeOf138
 v40:=Tryz.zeroValue138 }
open Go.RowKit Go.Lib in
theorem Tryz.slices_BinarySearch_int (b off n c:Nat)(zs:List Int)(x:Int)(w:World)(hz:n≤zs.length)(hbig:n<4611686018427387904)(hc:∀ j,j<zs.length→w.cell? ⟨b,off+j,none⟩=some (ι (zs.getD j 0)))(hs:(zs.take n).Pairwise (·≤·)) :
 Calls Tryz.prog 92 #[.slice (some ⟨b,off,none⟩) n c,ι x] w fun e w'=>e=.returned (.tuple #[ι ((zs.take n).countP (· < x):Nat),.bool ((zs.take n).contains x)])∧∃ q,w'=w.drewN q:=Any.slices_BinarySearch_int Tryz.laysNm225 b off n c zs x w hz hbig hc hs
open Go.RowKit Go.Lib in
theorem Tryz.slices_BinarySearch_int_empty (a:Option Addr)(c:Nat)(x:Int)(w:World) :
 Calls Tryz.prog 92 #[.slice a 0 c,ι x] w fun e w'=>e=.returned (.tuple #[ι 0,.bool false])∧w'=w:=Any.slices_BinarySearch_int_empty Tryz.laysNm225 a c x w
def Tryz.laysSlM5_f60_ren:Go.Shelf.Ren:=⟨fun | 5=>60 | 8=>106 | 7=>105 | 19=>143 | 20=>144 | 10=>135 | 11=>136 | 12=>137 | 13=>138 | 14=>139 | 15=>140 | 16=>129 | 17=>141 | 18=>142 | 30=>162 | 31=>163 | 32=>164 | 33=>165 | 34=>166 | 35=>161 | 40=>182 | n=>n,fun | 23=>32 | 25=>3 | 3=>3 | 32=>138 | 22=>32 | 0=>0 | 44=>171 | 46=>68 | 4=>4 | 36=>165 | 35=>164 | 41=>123 | 5=>5 | 9=>9 | 53=>183 | 57=>186 | 63=>200 | 64=>201 | n=>n,fun | n=>n⟩
theorem Tryz.laysSlM5_f60:Go.Proofs.SlLaysM.n5 Tryz.prog Tryz.laysSlM5_f60_ren:={
 mixed:=by kernel_rfl
 f5:=⟨Tryz.f60.name,by decide,Tryz.func60.trans (congrArg some (by kernel_rfl))⟩
 f7:=⟨Tryz.f105.name,by decide,Tryz.func105.trans (congrArg some (by kernel_rfl))⟩
 f8:=Tryz.func106.trans (congrArg some (by kernel_rfl))
 f10:=⟨Tryz.f135.name,by decide,Tryz.func135.trans (congrArg some (by kernel_rfl))⟩
 f11:=⟨Tryz.f136.name,by decide,Tryz.func136.trans (congrArg some (by kernel_rfl))⟩
 f12:=⟨Tryz.f137.name,by decide,Tryz.func137.trans (congrArg some (by kernel_rfl))⟩
 f13:=⟨Tryz.f138.name,by decide,Tryz.func138.trans (congrArg some (by kernel_rfl))⟩
 f14:=⟨Tryz.f139.name,by decide,Tryz.func139.trans (congrArg some (by kernel_rfl))⟩
 f15:=⟨Tryz.f140.name,by decide,Tryz.func140.trans (congrArg some (by kernel_rfl))⟩
 f16:=⟨Tryz.f129.name,by decide,Tryz.func129.trans (congrArg some (by kernel_rfl))⟩
 f17:=⟨Tryz.f141.name,by decide,Tryz.func141.trans (congrArg some (by kernel_rfl))⟩
 f18:=⟨Tryz.f142.name,by decide,Tryz.func142.trans (congrArg some (by kernel_rfl))⟩
 f19:=Tryz.func143.trans (congrArg some (by kernel_rfl))
 f20:=Tryz.func144.trans (congrArg some (by kernel_rfl))
 f30:=⟨Tryz.f162.name,by decide,Tryz.func162.trans (congrArg some (by kernel_rfl))⟩
 f31:=Tryz.func163.trans (congrArg some (by kernel_rfl))
 f32:=Tryz.func164.trans (congrArg some (by kernel_rfl))
 f33:=⟨Tryz.f165.name,by decide,Tryz.func165.trans (congrArg some (by kernel_rfl))⟩
 f34:=⟨Tryz.f166.name,by decide,Tryz.func166.trans (congrArg some (by kernel_rfl))⟩
 f35:=⟨Tryz.f161.name,by decide,Tryz.func161.trans (congrArg some (by kernel_rfl))⟩
 f40:=⟨Tryz.f182.name,by decide,Tryz.func182.trans (congrArg some (by kernel_rfl))⟩
 t0:=Tryz.underlying0
 a0:=Tryz.isAgg0
 z0:=Tryz.sizeOf0
 v0:=Tryz.zeroValue0
 t3:=Tryz.underlying3
 a3:=Tryz.isAgg3
 z3:=Tryz.sizeOf3
 v3:=Tryz.zeroValue3
 t4:=Tryz.underlying4
 a4:=Tryz.isAgg4
 z4:=Tryz.sizeOf4
 v4:=Tryz.zeroValue4
 t5:=Tryz.underlying5
 a5:=Tryz.isAgg5
 z5:=Tryz.sizeOf5
 v5:=Tryz.zeroValue5
 t9:=Tryz.underlying9
 a9:=Tryz.isAgg9
 z9:=Tryz.sizeOf9
 v9:=Tryz.zeroValue9
 t22:=Tryz.underlying32
 a22:=Tryz.isAgg32
 z22:=Tryz.sizeOf32
 v22:=Tryz.zeroValue32
 t23:=Tryz.underlying32
 a23:=Tryz.isAgg32
 z23:=Tryz.sizeOf32
 v23:=Tryz.zeroValue32
 t25:=Tryz.underlying3
 a25:=Tryz.isAgg3
 z25:=Tryz.sizeOf3
 v25:=Tryz.zeroValue3
 t32:=Tryz.underlying138
 a32:=Tryz.isAgg138
 z32:=Tryz.sizeOf138
 v32:=Tryz.zeroValue138
 t35:=Tryz.underlying164
 a35:=Tryz.isAgg164
 z35:=Tryz.sizeOf164
 v35:=Tryz.zeroValue164
 t36:=Tryz.underlying165
 a36:=Tryz.isAgg165
 z36:=Tryz.sizeOf165
 v36:=Tryz.zeroValue165
 t41:=Tryz.underlying123
 a41:=Tryz.isAgg123
 z41:=Tryz.sizeOf123
 v41:=Tryz.zeroValue123
 t44:=Tryz.underlying171
 a44:=Tryz.isAgg171
 z44:=Tryz.sizeOf171
 v44:=Tryz.zeroValue171
 t46:=Tryz.underlying68
 a46:=Tryz.isAgg68
 z46:=Tryz.sizeOf68
 v46:=Tryz.zeroValue68
 t53:=Tryz.underlying183
 a53:=Tryz.isAgg183
 z53:=Tryz.sizeOf183
 v53:=Tryz.zeroValue183
 t57:=Tryz.underlying186
 a57:=Tryz.isAgg186
 z57:=Tryz.sizeOf186
 v57:=Tryz.zeroValue186
 t63:=Tryz.underlying200
 a63:=Tryz.isAgg200
 z63:=Tryz.sizeOf200
 v63:=Tryz.zeroValue200
 t64:=Tryz.underlying201
 a64:=Tryz.isAgg201
 z64:=Tryz.sizeOf201
 v64:=Tryz.zeroValue201 }
open Go.Sort Go.RowKit in
theorem Tryz.slices_Sort_int_f60 (blk off cap:Nat)(zs:List Int)(w:World)(hH:Holds (Value.int .i64) w blk off zs.toArray)(hblk:blk<w.heap.size)(hsz:zs.length<4611686018427387904) :
 Calls Tryz.prog 60 #[.slice (some ⟨blk,off,none⟩) zs.length cap] w fun e w'=>
  e=.returned (.tuple #[])∧∃ n os,w'=grow (putRow (Value.int .i64) (Sort.ahead w n) blk off (zs.mergeSort fun x y=>decide (x≤y)).toArray) os:=AnyM.slices_Sort_int Tryz.laysSlM5_f60 blk off cap zs w hH hblk hsz
def Tryz.laysSlM5_f111_ren:Go.Shelf.Ren:=⟨fun | 5=>111 | 8=>106 | 7=>155 | 19=>143 | 20=>144 | 10=>172 | 11=>173 | 12=>174 | 13=>175 | 14=>176 | 15=>177 | 16=>178 | 17=>179 | 18=>180 | 30=>196 | 31=>163 | 32=>164 | 33=>197 | 34=>198 | 35=>168 | 40=>205 | n=>n,fun | 23=>46 | 25=>2 | 3=>3 | 32=>138 | 22=>46 | 0=>0 | 44=>171 | 46=>68 | 4=>4 | 36=>165 | 35=>164 | 41=>123 | 5=>5 | 9=>9 | 53=>183 | 57=>186 | 63=>200 | 64=>201 | n=>n,fun | n=>n⟩
theorem Tryz.laysSlM5_f111:Go.Proofs.SlLaysM.n5 Tryz.prog Tryz.laysSlM5_f111_ren:={
 mixed:=by kernel_rfl
 f5:=⟨Tryz.f111.name,by decide,Tryz.func111.trans (congrArg some (by kernel_rfl))⟩
 f7:=⟨Tryz.f155.name,by decide,Tryz.func155.trans (congrArg some (by kernel_rfl))⟩
 f8:=Tryz.func106.trans (congrArg some (by kernel_rfl))
 f10:=⟨Tryz.f172.name,by decide,Tryz.func172.trans (congrArg some (by kernel_rfl))⟩
 f11:=⟨Tryz.f173.name,by decide,Tryz.func173.trans (congrArg some (by kernel_rfl))⟩
 f12:=⟨Tryz.f174.name,by decide,Tryz.func174.trans (congrArg some (by kernel_rfl))⟩
 f13:=⟨Tryz.f175.name,by decide,Tryz.func175.trans (congrArg some (by kernel_rfl))⟩
 f14:=⟨Tryz.f176.name,by decide,Tryz.func176.trans (congrArg some (by kernel_rfl))⟩
 f15:=⟨Tryz.f177.name,by decide,Tryz.func177.trans (congrArg some (by kernel_rfl))⟩
 f16:=⟨Tryz.f178.name,by decide,Tryz.func178.trans (congrArg some (by kernel_rfl))⟩
 f17:=⟨Tryz.f179.name,by decide,Tryz.func179.trans (congrArg some (by kernel_rfl))⟩
 f18:=⟨Tryz.f180.name,by decide,Tryz.func180.trans (congrArg some (by kernel_rfl))⟩
 f19:=Tryz.func143.trans (congrArg some (by kernel_rfl))
 f20:=Tryz.func144.trans (congrArg some (by kernel_rfl))
 f30:=⟨Tryz.f196.name,by decide,Tryz.func196.trans (congrArg some (by kernel_rfl))⟩
 f31:=Tryz.func163.trans (congrArg some (by kernel_rfl))
 f32:=Tryz.func164.trans (congrArg some (by kernel_rfl))
 f33:=⟨Tryz.f197.name,by decide,Tryz.func197.trans (congrArg some (by kernel_rfl))⟩
 f34:=⟨Tryz.f198.name,by decide,Tryz.func198.trans (congrArg some (by kernel_rfl))⟩
 f35:=⟨Tryz.f168.name,by decide,Tryz.func168.trans (congrArg some (by kernel_rfl))⟩
 f40:=⟨Tryz.f205.name,by decide,Tryz.func205.trans (congrArg some (by kernel_rfl))⟩
 t0:=Tryz.underlying0
 a0:=Tryz.isAgg0
 z0:=Tryz.sizeOf0
 v0:=Tryz.zeroValue0
 t3:=Tryz.underlying3
 a3:=Tryz.isAgg3
 z3:=Tryz.sizeOf3
 v3:=Tryz.zeroValue3
 t4:=Tryz.underlying4
 a4:=Tryz.isAgg4
 z4:=Tryz.sizeOf4
 v4:=Tryz.zeroValue4
 t5:=Tryz.underlying5
 a5:=Tryz.isAgg5
 z5:=Tryz.sizeOf5
 v5:=Tryz.zeroValue5
 t9:=Tryz.underlying9
 a9:=Tryz.isAgg9
 z9:=Tryz.sizeOf9
 v9:=Tryz.zeroValue9
 t22:=Tryz.underlying46
 a22:=Tryz.isAgg46
 z22:=Tryz.sizeOf46
 v22:=Tryz.zeroValue46
 t23:=Tryz.underlying46
 a23:=Tryz.isAgg46
 z23:=Tryz.sizeOf46
 v23:=Tryz.zeroValue46
 t25:=Tryz.underlying2
 a25:=Tryz.isAgg2
 z25:=Tryz.sizeOf2
 v25:=Tryz.zeroValue2
 t32:=Tryz.underlying138
 a32:=Tryz.isAgg138
 z32:=Tryz.sizeOf138
 v32:=Tryz.zeroValue138
 t35:=Tryz.underlying164
 a35:=Tryz.isAgg164
 z35:=Tryz.sizeOf164
 v35:=Tryz.zeroValue164
 t36:=Tryz.underlying165
 a36:=Tryz.isAgg165
 z36:=Tryz.sizeOf165
 v36:=Tryz.zeroValue165
 t41:=Tryz.underlying123
 a41:=Tryz.isAgg123
 z41:=Tryz.sizeOf123
 v41:=Tryz.zeroValue123
 t44:=Tryz.underlying171
 a44:=Tryz.isAgg171
 z44:=Tryz.sizeOf171
 v44:=Tryz.zeroValue171
 t46:=Tryz.underlying68
 a46:=Tryz.isAgg68
 z46:=Tryz.sizeOf68
 v46:=Tryz.zeroValue68
 t53:=Tryz.underlying183
 a53:=Tryz.isAgg183
 z53:=Tryz.sizeOf183
 v53:=Tryz.zeroValue183
 t57:=Tryz.underlying186
 a57:=Tryz.isAgg186
 z57:=Tryz.sizeOf186
 v57:=Tryz.zeroValue186
 t63:=Tryz.underlying200
 a63:=Tryz.isAgg200
 z63:=Tryz.sizeOf200
 v63:=Tryz.zeroValue200
 t64:=Tryz.underlying201
 a64:=Tryz.isAgg201
 z64:=Tryz.sizeOf201
 v64:=Tryz.zeroValue201 }
open Go.Sort Go.RowKit in
theorem Tryz.slices_Sort_int_f111 (blk off cap:Nat)(zs:List Int)(w:World)(hH:Holds (Value.int .i64) w blk off zs.toArray)(hblk:blk<w.heap.size)(hsz:zs.length<4611686018427387904) :
 Calls Tryz.prog 111 #[.slice (some ⟨blk,off,none⟩) zs.length cap] w fun e w'=>
  e=.returned (.tuple #[])∧∃ n os,w'=grow (putRow (Value.int .i64) (Sort.ahead w n) blk off (zs.mergeSort fun x y=>decide (x≤y)).toArray) os:=AnyM.slices_Sort_int Tryz.laysSlM5_f111 blk off cap zs w hH hblk hsz
open Go.RowKit Go.Sort in
theorem Tryz.slices_Sort_int_none_f60 (p:Option Addr)(cap:Nat)(w:World) :
 Calls Tryz.prog 60 #[.slice p 0 cap] w fun e w'=>e=.returned (.tuple #[])∧w'=w:=AnyM.slices_Sort_int_none Tryz.laysSlM5_f60 p cap w
open Go.RowKit Go.Sort in
theorem Tryz.slices_Sort_int_none_f111 (p:Option Addr)(cap:Nat)(w:World) :
 Calls Tryz.prog 111 #[.slice p 0 cap] w fun e w'=>e=.returned (.tuple #[])∧w'=w:=AnyM.slices_Sort_int_none Tryz.laysSlM5_f111 p cap w
end Go.Proofs
namespace Go.Proofs.YtdhcjhfgibmhfaaGreatDoor
open Go.RowKit Go.Own Go.Quo Go.Inc
def Ya (zs:List Int):List Int:=zs.mergeSort fun x y=>decide (x≤y)
theorem jE (zs:List Int):(Ya zs).length=zs.length:=by simp[Ya]
theorem KE (zs:List Int):(Ya zs).Perm zs:=List.mergeSort_perm zs _
theorem iI (zs:List Int):(Ya zs).Pairwise (fun a b=>a≤b):=by
 have:=List.pairwise_mergeSort (le:=fun x y:Int=>decide (x≤y)) (fun a b c=>by simp;omega) (fun a b=>by simp;omega) zs
 exact this.imp (fun h=>by simpa using h)
def ER (base:Nat)(A:Option Addr)(n c:Nat)(zs:List Int)(w:World)(e:Ending)(w':World):Prop:=
 e=.returned (.tuple #[])∧w'.ownsRow base 2 1 (.slice A n c) n ((Ya zs).map (Value.int .i64))∧w.grownBy w' (Value.slice A n c).ownBlock
theorem EQ (base:Nat)(A:Option Addr)(n c:Nat)(zs:List Int)(w:World)(hown:w.ownsRow base 2 1 (.slice A n c) n (zs.map (Value.int .i64)))(hnb:n≤1000000) :
 Calls Tryz.prog 111 #[.slice A n c] w (ER base A n c zs w):=by
 have hl:zs.length=n:=by simpa using hown.1
 rcases Nat.eq_zero_or_pos n with h0 | h0
 ·subst h0
  have hz:zs=[]:=List.eq_nil_of_length_eq_zero hl
  subst hz
  refine (Tryz.slices_Sort_int_none_f111 A c w).mono ?_
  rintro e w' ⟨rfl,rfl⟩
  exact ⟨rfl,by simpa [Ya] using hown,World.grownBy.refl _ _⟩
 ·rcases hown.2 with ⟨_,hv⟩ | ⟨g,cap,cur,hv,hb,hg,hnc,hcm,hsz,htk⟩
  ·omega
  ·injection hv with h1 h2 h3
   subst h1 h3
   have hH:=holds_of_blockI hg (by rw[hl];simpa using htk)
   have hlen:zs.length<4611686018427387904:=by omega
   refine (hl ▸ Tryz.slices_Sort_int_f111 g 0 c zs w hH ((Array.getElem?_eq_some_iff.1 hg).1) hlen).mono ?_
   rintro e w' ⟨rfl,k,os,rfl⟩
   refine ⟨rfl,?_,grownBy_sortedI _⟩
   have:=ownsRow_sortedI (n:=k) (os:=os) (ss:=zs) (ts:=Ya zs) (jE zs) hb hg (by omega) hcm hsz
   rw[hl] at this
   exact this
theorem Hz {l k:List Int}(hp:l.Perm k)(hk:k.Pairwise (fun a b=>a≤b)):Ya l=k:=Y_ ((KE l).trans hp) (iI l) hk
def qX (b:Bool)(w:World)(e:Ending)(w':World):Prop:=e=.returned (.bool b)∧Below w.heap.size w w'
theorem jI (urg:Int)(code:ByteArray)(nodes:List Int)(dist since:Int):yK urg code nodes dist since=(decide (1≤urg) && decide (urg≤5) && qZ code && decide (0<nodes.length) && qf nodes 0 4095 && decide (0≤dist) && decide (dist≤8) && zQ since 0):=by
 have e:decide (dist<9)=decide (dist≤8):=by rw[Bool.eq_iff_iff];simp;omega
 unfold yK zQ
 rw[e]
 simp only[Bool.and_assoc]
theorem Bc (B:Nat→Prop)(urg dist since:Int)(code:ByteArray)(A:Option Addr)(c:Nat)(nodes:List Int)(w:World)(hs:code.size≤100000)(h:RI w B A nodes)(hl:nodes.length≤100000) :
 Calls Tryz.prog 119 #[ι urg,.string code,.slice A nodes.length c,ι dist,ι since] w (qX (yK urg code nodes dist since) w):=by
 have EG:=ħ (lD code w hs)
 have Xv:=ħ (EB B A c nodes w h hl)
 have VX:=ħ (fun (B':Nat→Prop) (A':Option Addr) (c':Nat) (W:World) (hr:RI W B' A' nodes)=>UL B' A' c' nodes 0 4095 W hr hl)
 have Y1:=ħ (fun W=>ZW since 0 W)
 have HB0:=ħ (Below.refl w.heap.size w)
 rw[jI]
 clear h
 unfold qL at Xv
 generalize qZ code=b2 at *
 generalize qf nodes 0 4095=b4 at *
 generalize zQ since 0=b7 at *
 cases h0:decide (1≤urg) with
 | false=>
  go_enter Tryz.func119,Tryz.ntmps119
  go_wp2_with (first | (go_at_call 157;((with_reducible refine EG.out.mono ?_);rintro e w2 ⟨rfl,rfl⟩)) | (go_at_call 121;((with_reducible refine Xv.out.mono ?_);rintro e w2 ⟨A2,c2,rfl,ho2,hb2⟩;have Qp:=ħ hb2;have HR2:=ħ (Reads.of_own ho2);clear ho2 hb2)) | (go_at_call 120;((with_reducible refine (VX.out _ _ _ _ HR2.out).mono ?_);rintro e w3 ⟨rfl,rfl⟩)) | (go_at_call 118;((with_reducible refine (Y1.out _).mono ?_);rintro e w3 ⟨rfl,rfl⟩)))
  go_ret
  exact ⟨by first | rfl | simp,by first | exact HB0.out | exact Qp.out⟩
 | true=>
  cases h1:decide (urg≤5) with
  | false=>
   go_enter Tryz.func119,Tryz.ntmps119
   go_wp2_with (first | (go_at_call 157;((with_reducible refine EG.out.mono ?_);rintro e w2 ⟨rfl,rfl⟩)) | (go_at_call 121;((with_reducible refine Xv.out.mono ?_);rintro e w2 ⟨A2,c2,rfl,ho2,hb2⟩;have Qp:=ħ hb2;have HR2:=ħ (Reads.of_own ho2);clear ho2 hb2)) | (go_at_call 120;((with_reducible refine (VX.out _ _ _ _ HR2.out).mono ?_);rintro e w3 ⟨rfl,rfl⟩)) | (go_at_call 118;((with_reducible refine (Y1.out _).mono ?_);rintro e w3 ⟨rfl,rfl⟩)))
   go_ret
   exact ⟨by first | rfl | simp,by first | exact HB0.out | exact Qp.out⟩
  | true=>
   cases h2:b2 with
   | false=>
    go_enter Tryz.func119,Tryz.ntmps119
    go_wp2_with (first | (go_at_call 157;((with_reducible refine EG.out.mono ?_);rintro e w2 ⟨rfl,rfl⟩)) | (go_at_call 121;((with_reducible refine Xv.out.mono ?_);rintro e w2 ⟨A2,c2,rfl,ho2,hb2⟩;have Qp:=ħ hb2;have HR2:=ħ (Reads.of_own ho2);clear ho2 hb2)) | (go_at_call 120;((with_reducible refine (VX.out _ _ _ _ HR2.out).mono ?_);rintro e w3 ⟨rfl,rfl⟩)) | (go_at_call 118;((with_reducible refine (Y1.out _).mono ?_);rintro e w3 ⟨rfl,rfl⟩)))
    go_ret
    exact ⟨by first | rfl | simp,by first | exact HB0.out | exact Qp.out⟩
   | true=>
    by_cases h3:0<nodes.length
    ·rw[decide_eq_true h3]
     cases h4:b4 with
     | false=>
      go_enter Tryz.func119,Tryz.ntmps119
      go_wp2_with (first | (go_at_call 157;((with_reducible refine EG.out.mono ?_);rintro e w2 ⟨rfl,rfl⟩)) | (go_at_call 121;((with_reducible refine Xv.out.mono ?_);rintro e w2 ⟨A2,c2,rfl,ho2,hb2⟩;have Qp:=ħ hb2;have HR2:=ħ (Reads.of_own ho2);clear ho2 hb2)) | (go_at_call 120;((with_reducible refine (VX.out _ _ _ _ HR2.out).mono ?_);rintro e w3 ⟨rfl,rfl⟩)) | (go_at_call 118;((with_reducible refine (Y1.out _).mono ?_);rintro e w3 ⟨rfl,rfl⟩)))
      go_ret
      exact ⟨by first | rfl | simp,by first | exact HB0.out | exact Qp.out⟩
     | true=>
      cases h5:decide (0≤dist) with
      | false=>
       go_enter Tryz.func119,Tryz.ntmps119
       go_wp2_with (first | (go_at_call 157;((with_reducible refine EG.out.mono ?_);rintro e w2 ⟨rfl,rfl⟩)) | (go_at_call 121;((with_reducible refine Xv.out.mono ?_);rintro e w2 ⟨A2,c2,rfl,ho2,hb2⟩;have Qp:=ħ hb2;have HR2:=ħ (Reads.of_own ho2);clear ho2 hb2)) | (go_at_call 120;((with_reducible refine (VX.out _ _ _ _ HR2.out).mono ?_);rintro e w3 ⟨rfl,rfl⟩)) | (go_at_call 118;((with_reducible refine (Y1.out _).mono ?_);rintro e w3 ⟨rfl,rfl⟩)))
       go_ret
       exact ⟨by first | rfl | simp,by first | exact HB0.out | exact Qp.out⟩
      | true=>
       cases h6:decide (dist≤8) with
       | false=>
        go_enter Tryz.func119,Tryz.ntmps119
        go_wp2_with (first | (go_at_call 157;((with_reducible refine EG.out.mono ?_);rintro e w2 ⟨rfl,rfl⟩)) | (go_at_call 121;((with_reducible refine Xv.out.mono ?_);rintro e w2 ⟨A2,c2,rfl,ho2,hb2⟩;have Qp:=ħ hb2;have HR2:=ħ (Reads.of_own ho2);clear ho2 hb2)) | (go_at_call 120;((with_reducible refine (VX.out _ _ _ _ HR2.out).mono ?_);rintro e w3 ⟨rfl,rfl⟩)) | (go_at_call 118;((with_reducible refine (Y1.out _).mono ?_);rintro e w3 ⟨rfl,rfl⟩)))
        go_ret
        exact ⟨by first | rfl | simp,by first | exact HB0.out | exact Qp.out⟩
       | true=>
        cases h7:b7 with
        | false=>
         go_enter Tryz.func119,Tryz.ntmps119
         go_wp2_with (first | (go_at_call 157;((with_reducible refine EG.out.mono ?_);rintro e w2 ⟨rfl,rfl⟩)) | (go_at_call 121;((with_reducible refine Xv.out.mono ?_);rintro e w2 ⟨A2,c2,rfl,ho2,hb2⟩;have Qp:=ħ hb2;have HR2:=ħ (Reads.of_own ho2);clear ho2 hb2)) | (go_at_call 120;((with_reducible refine (VX.out _ _ _ _ HR2.out).mono ?_);rintro e w3 ⟨rfl,rfl⟩)) | (go_at_call 118;((with_reducible refine (Y1.out _).mono ?_);rintro e w3 ⟨rfl,rfl⟩)))
         go_ret
         exact ⟨by first | rfl | simp,by first | exact HB0.out | exact Qp.out⟩
        | true=>
         go_enter Tryz.func119,Tryz.ntmps119
         go_wp2_with (first | (go_at_call 157;((with_reducible refine EG.out.mono ?_);rintro e w2 ⟨rfl,rfl⟩)) | (go_at_call 121;((with_reducible refine Xv.out.mono ?_);rintro e w2 ⟨A2,c2,rfl,ho2,hb2⟩;have Qp:=ħ hb2;have HR2:=ħ (Reads.of_own ho2);clear ho2 hb2)) | (go_at_call 120;((with_reducible refine (VX.out _ _ _ _ HR2.out).mono ?_);rintro e w3 ⟨rfl,rfl⟩)) | (go_at_call 118;((with_reducible refine (Y1.out _).mono ?_);rintro e w3 ⟨rfl,rfl⟩)))
         go_ret
         exact ⟨by first | rfl | simp,by first | exact HB0.out | exact Qp.out⟩
    ·rw[decide_eq_false h3]
     go_enter Tryz.func119,Tryz.ntmps119
     go_wp2_with (first | (go_at_call 157;((with_reducible refine EG.out.mono ?_);rintro e w2 ⟨rfl,rfl⟩)) | (go_at_call 121;((with_reducible refine Xv.out.mono ?_);rintro e w2 ⟨A2,c2,rfl,ho2,hb2⟩;have Qp:=ħ hb2;have HR2:=ħ (Reads.of_own ho2);clear ho2 hb2)) | (go_at_call 120;((with_reducible refine (VX.out _ _ _ _ HR2.out).mono ?_);rintro e w3 ⟨rfl,rfl⟩)) | (go_at_call 118;((with_reducible refine (Y1.out _).mono ?_);rintro e w3 ⟨rfl,rfl⟩)))
     go_ret
     exact ⟨by first | rfl | simp,by first | exact HB0.out | exact Qp.out⟩
theorem JA (B:Nat→Prop)(call inc urg dist since:Int)(code:ByteArray)(A:Option Addr)(c:Nat)(nodes:List Int)(closed:Bool)(w:World)(hs:code.size≤100000)(h:RI w B A nodes)(hl:nodes.length≤100000) :
 Calls Tryz.prog 127 #[.agg #[ι call,ι inc,ι urg,.string code,.slice A nodes.length c,ι dist,ι since,.bool closed]] w (qX (yz ⟨call,inc,urg,code,nodes,dist,since,closed⟩) w):=by
 have Yf:=ħ (fun W=>kS call W)
 have x8:=ħ (Kr B urg dist since code A c nodes (w.alloc (.cells #[ι call,ι inc,ι urg,.string code,.slice A nodes.length c,ι dist,ι since,.bool closed] 34)) hs (h.alloc _) hl)
 have HB0:=ħ ((Below.refl w.heap.size w).alloc (Nat.le_refl _) (.cells #[ι call,ι inc,ι urg,.string code,.slice A nodes.length c,ι dist,ι since,.bool closed] 34))
 have x0:=(zb.new w 34 #[ι call,ι inc,ι urg,.string code,.slice A nodes.length c,ι dist,ι since,.bool closed]).facts
 have e:yz ⟨call,inc,urg,code,nodes,dist,since,closed⟩=(zQ call 1 && decide (0≤inc) && decide (inc≤1099511627776) && yK urg code nodes dist since):=by
  unfold yz
  rw[show zQ inc 0=(decide (0≤inc) && decide (inc≤1099511627776)) from rfl]
  simp only[Bool.and_assoc]
 rw[e]
 clear e h
 generalize zQ call 1=b0 at *
 generalize yK urg code nodes dist since=b3 at *
 cases h0:b0 with
 | false=>
  go_enter Tryz.func127,Tryz.ntmps127
  go_wp2_with (first | (go_at_call 126;((with_reducible refine (Yf.out _).mono ?_);rintro e w2 ⟨rfl,rfl⟩)) | (go_at_call 158;((with_reducible refine x8.out.mono ?_);rintro e w2 ⟨rfl,rfl⟩)))
  go_ret
  exact ⟨by first | rfl | simp,HB0.out⟩
 | true=>
  cases h1:decide (0≤inc) with
  | false=>
   go_enter Tryz.func127,Tryz.ntmps127
   go_wp2_with (first | (go_at_call 126;((with_reducible refine (Yf.out _).mono ?_);rintro e w2 ⟨rfl,rfl⟩)) | (go_at_call 158;((with_reducible refine x8.out.mono ?_);rintro e w2 ⟨rfl,rfl⟩)))
   go_ret
   exact ⟨by first | rfl | simp,HB0.out⟩
  | true=>
   cases h2:decide (inc≤1099511627776) with
   | false=>
    go_enter Tryz.func127,Tryz.ntmps127
    go_wp2_with (first | (go_at_call 126;((with_reducible refine (Yf.out _).mono ?_);rintro e w2 ⟨rfl,rfl⟩)) | (go_at_call 158;((with_reducible refine x8.out.mono ?_);rintro e w2 ⟨rfl,rfl⟩)))
    go_ret
    exact ⟨by first | rfl | simp,HB0.out⟩
   | true=>
    cases h3:b3 with
    | false=>
     go_enter Tryz.func127,Tryz.ntmps127
     go_wp2_with (first | (go_at_call 126;((with_reducible refine (Yf.out _).mono ?_);rintro e w2 ⟨rfl,rfl⟩)) | (go_at_call 158;((with_reducible refine x8.out.mono ?_);rintro e w2 ⟨rfl,rfl⟩)))
     go_ret
     exact ⟨by first | rfl | simp,HB0.out⟩
    | true=>
     go_enter Tryz.func127,Tryz.ntmps127
     go_wp2_with (first | (go_at_call 126;((with_reducible refine (Yf.out _).mono ?_);rintro e w2 ⟨rfl,rfl⟩)) | (go_at_call 158;((with_reducible refine x8.out.mono ?_);rintro e w2 ⟨rfl,rfl⟩)))
     go_ret
     exact ⟨by first | rfl | simp,HB0.out⟩
theorem vY (B:Nat→Prop)(call inc urg dist since:Int)(code:ByteArray)(A:Option Addr)(c:Nat)(nodes:List Int)(closed:Bool)(w:World)(hs:code.size≤100000)(h:RI w B A nodes)(hl:nodes.length≤100000) :
 Calls Tryz.prog 70 #[.agg #[ι call,ι inc,ι urg,.string code,.slice A nodes.length c,ι dist,ι since,.bool closed]] w (qX (yz ⟨call,inc,urg,code,nodes,dist,since,closed⟩) w):=by
 have Y1:=ħ (fun W=>ZW call 1 W)
 have Y0:=ħ (fun W=>ZW inc 0 W)
 have Km:=ħ (Bc B urg dist since code A c nodes (w.alloc (.cells #[ι call,ι inc,ι urg,.string code,.slice A nodes.length c,ι dist,ι since,.bool closed] 34)) hs (h.alloc _) hl)
 have HB0:=ħ ((Below.refl w.heap.size w).alloc (Nat.le_refl _) (.cells #[ι call,ι inc,ι urg,.string code,.slice A nodes.length c,ι dist,ι since,.bool closed] 34))
 have x0:=(zb.new w 34 #[ι call,ι inc,ι urg,.string code,.slice A nodes.length c,ι dist,ι since,.bool closed]).facts
 unfold yz
 simp only
 clear h
 generalize zQ call 1=b0 at *
 generalize zQ inc 0=b1 at *
 generalize yK urg code nodes dist since=b3 at *
 cases h0:b0 with
 | false=>
  go_enter Tryz.func70,Tryz.ntmps70
  go_wp2_with (first | (go_at_call 118;((with_reducible refine (Y1.out _).mono ?_);rintro e w2 ⟨rfl,rfl⟩)) | (go_at_call 118;((with_reducible refine (Y0.out _).mono ?_);rintro e w2 ⟨rfl,rfl⟩)) | (go_at_call 119;((with_reducible refine Km.out.mono ?_);rintro e w2 ⟨rfl,hb2⟩;have Qp:=ħ (HB0.out.trans (hb2.mono HB0.out.size));clear hb2)))
  go_ret
  exact ⟨by first | rfl | simp,by first | exact Qp.out | exact HB0.out⟩
 | true=>
  cases h1:b1 with
  | false=>
   go_enter Tryz.func70,Tryz.ntmps70
   go_wp2_with (first | (go_at_call 118;((with_reducible refine (Y1.out _).mono ?_);rintro e w2 ⟨rfl,rfl⟩)) | (go_at_call 118;((with_reducible refine (Y0.out _).mono ?_);rintro e w2 ⟨rfl,rfl⟩)) | (go_at_call 119;((with_reducible refine Km.out.mono ?_);rintro e w2 ⟨rfl,hb2⟩;have Qp:=ħ (HB0.out.trans (hb2.mono HB0.out.size));clear hb2)))
   go_ret
   exact ⟨by first | rfl | simp,by first | exact Qp.out | exact HB0.out⟩
  | true=>
   cases h3:b3 with
   | false=>
    go_enter Tryz.func70,Tryz.ntmps70
    go_wp2_with (first | (go_at_call 118;((with_reducible refine (Y1.out _).mono ?_);rintro e w2 ⟨rfl,rfl⟩)) | (go_at_call 118;((with_reducible refine (Y0.out _).mono ?_);rintro e w2 ⟨rfl,rfl⟩)) | (go_at_call 119;((with_reducible refine Km.out.mono ?_);rintro e w2 ⟨rfl,hb2⟩;have Qp:=ħ (HB0.out.trans (hb2.mono HB0.out.size));clear hb2)))
    go_ret
    exact ⟨by first | rfl | simp,by first | exact Qp.out | exact HB0.out⟩
   | true=>
    go_enter Tryz.func70,Tryz.ntmps70
    go_wp2_with (first | (go_at_call 118;((with_reducible refine (Y1.out _).mono ?_);rintro e w2 ⟨rfl,rfl⟩)) | (go_at_call 118;((with_reducible refine (Y0.out _).mono ?_);rintro e w2 ⟨rfl,rfl⟩)) | (go_at_call 119;((with_reducible refine Km.out.mono ?_);rintro e w2 ⟨rfl,hb2⟩;have Qp:=ħ (HB0.out.trans (hb2.mono HB0.out.size));clear hb2)))
    go_ret
    exact ⟨by first | rfl | simp,by first | exact Qp.out | exact HB0.out⟩
theorem kL (B:Nat→Prop)(id urg dist since merged:Int)(code:ByteArray)(An Ac Au:Option Addr)(cn cc cu:Nat)(nodes calls units:List Int)(closed:Bool)(w:World)(hs:code.size≤100000)(hn:RI w B An nodes)(hc:RI w B Ac calls)(hu:RI w B Au units)(ln:nodes.length≤100000)(lc:calls.length≤100000)(lu:units.length≤100000) :
 Calls Tryz.prog 124 #[.agg #[ι id,ι urg,.string code,.slice An nodes.length cn,ι dist,ι since,.slice Ac calls.length cc,.slice Au units.length cu,ι merged,.bool closed]] w (qX (jC ⟨id,urg,code,nodes,dist,since,calls,units,merged,closed⟩) w):=by
 have Yf:=ħ (fun W=>kS id W)
 have Vo:=ħ (fun W=>kS merged W)
 have x8:=ħ (Kr B urg dist since code An cn nodes (w.alloc (.cells #[ι id,ι urg,.string code,.slice An nodes.length cn,ι dist,ι since,.slice Ac calls.length cc,.slice Au units.length cu,ι merged,.bool closed] 48)) hs (hn.alloc _) ln)
 have VR:=ħ (Bu B Ac cc calls 1 1099511627776 (w.alloc (.cells #[ι id,ι urg,.string code,.slice An nodes.length cn,ι dist,ι since,.slice Ac calls.length cc,.slice Au units.length cu,ι merged,.bool closed] 48)) (hc.alloc _) lc)
 have VQ:=ħ (Ht B Au cu units 0 255 (w.alloc (.cells #[ι id,ι urg,.string code,.slice An nodes.length cn,ι dist,ι since,.slice Ac calls.length cc,.slice Au units.length cu,ι merged,.bool closed] 48)) (hu.alloc _) lu)
 have HB0:=ħ ((Below.refl w.heap.size w).alloc (Nat.le_refl _) (.cells #[ι id,ι urg,.string code,.slice An nodes.length cn,ι dist,ι since,.slice Ac calls.length cc,.slice Au units.length cu,ι merged,.bool closed] 48))
 have x0:=(zb.new w 48 #[ι id,ι urg,.string code,.slice An nodes.length cn,ι dist,ι since,.slice Ac calls.length cc,.slice Au units.length cu,ι merged,.bool closed]).facts
 unfold jC Qo
 simp only
 clear hn hc hu
 generalize zQ id 1=b0 at *
 generalize yK urg code nodes dist since=b1 at *
 generalize qf calls 1 1099511627776=b3 at *
 generalize qf units 0 255=b4 at *
 generalize zQ merged 1=b6 at *
 generalize calls.length=Vj at *
 generalize units.length=Fq at *
 cases h0:b0 with
 | false=>
  go_enter Tryz.func124,Tryz.ntmps124
  go_wp2_with (first | (go_at_call 126;((with_reducible refine (Yf.out _).mono ?_);rintro e w2 ⟨rfl,rfl⟩)) | (go_at_call 126;((with_reducible refine (Vo.out _).mono ?_);rintro e w2 ⟨rfl,rfl⟩)) | (go_at_call 158;((with_reducible refine x8.out.mono ?_);rintro e w2 ⟨rfl,rfl⟩)) | (go_at_call 152;((with_reducible refine VR.out.mono ?_);rintro e w2 ⟨rfl,rfl⟩)) | (go_at_call 159;((with_reducible refine VQ.out.mono ?_);rintro e w2 ⟨rfl,rfl⟩)))
  go_ret
  exact ⟨by first | rfl | (simp;done) | (simp;assumption),HB0.out⟩
 | true=>
  cases h1:b1 with
  | false=>
   go_enter Tryz.func124,Tryz.ntmps124
   go_wp2_with (first | (go_at_call 126;((with_reducible refine (Yf.out _).mono ?_);rintro e w2 ⟨rfl,rfl⟩)) | (go_at_call 126;((with_reducible refine (Vo.out _).mono ?_);rintro e w2 ⟨rfl,rfl⟩)) | (go_at_call 158;((with_reducible refine x8.out.mono ?_);rintro e w2 ⟨rfl,rfl⟩)) | (go_at_call 152;((with_reducible refine VR.out.mono ?_);rintro e w2 ⟨rfl,rfl⟩)) | (go_at_call 159;((with_reducible refine VQ.out.mono ?_);rintro e w2 ⟨rfl,rfl⟩)))
   go_ret
   exact ⟨by first | rfl | (simp;done) | (simp;assumption),HB0.out⟩
  | true=>
   by_cases h2:Vj≤1000
   ·rw[decide_eq_true h2]
    have Cv:¬ (1000:Int)<Vj:=(by omega);have wJ:¬ 1000<Vj:=(by omega)
    cases h3:b3 with
    | false=>
     go_enter Tryz.func124,Tryz.ntmps124
     go_wp2_with (first | (go_at_call 126;((with_reducible refine (Yf.out _).mono ?_);rintro e w2 ⟨rfl,rfl⟩)) | (go_at_call 126;((with_reducible refine (Vo.out _).mono ?_);rintro e w2 ⟨rfl,rfl⟩)) | (go_at_call 158;((with_reducible refine x8.out.mono ?_);rintro e w2 ⟨rfl,rfl⟩)) | (go_at_call 152;((with_reducible refine VR.out.mono ?_);rintro e w2 ⟨rfl,rfl⟩)) | (go_at_call 159;((with_reducible refine VQ.out.mono ?_);rintro e w2 ⟨rfl,rfl⟩)))
     go_ret
     exact ⟨by first | rfl | (simp;done) | (simp;assumption),HB0.out⟩
    | true=>
     cases h4:b4 with
     | false=>
      go_enter Tryz.func124,Tryz.ntmps124
      go_wp2_with (first | (go_at_call 126;((with_reducible refine (Yf.out _).mono ?_);rintro e w2 ⟨rfl,rfl⟩)) | (go_at_call 126;((with_reducible refine (Vo.out _).mono ?_);rintro e w2 ⟨rfl,rfl⟩)) | (go_at_call 158;((with_reducible refine x8.out.mono ?_);rintro e w2 ⟨rfl,rfl⟩)) | (go_at_call 152;((with_reducible refine VR.out.mono ?_);rintro e w2 ⟨rfl,rfl⟩)) | (go_at_call 159;((with_reducible refine VQ.out.mono ?_);rintro e w2 ⟨rfl,rfl⟩)))
      go_ret
      exact ⟨by first | rfl | (simp;done) | (simp;assumption),HB0.out⟩
     | true=>
      by_cases h5:merged=0
      ·subst h5
       rw[decide_eq_true rfl]
       go_enter Tryz.func124,Tryz.ntmps124
       go_wp2_with (first | (go_at_call 126;((with_reducible refine (Yf.out _).mono ?_);rintro e w2 ⟨rfl,rfl⟩)) | (go_at_call 126;((with_reducible refine (Vo.out _).mono ?_);rintro e w2 ⟨rfl,rfl⟩)) | (go_at_call 158;((with_reducible refine x8.out.mono ?_);rintro e w2 ⟨rfl,rfl⟩)) | (go_at_call 152;((with_reducible refine VR.out.mono ?_);rintro e w2 ⟨rfl,rfl⟩)) | (go_at_call 159;((with_reducible refine VQ.out.mono ?_);rintro e w2 ⟨rfl,rfl⟩)))
       go_ret
       exact ⟨by first | rfl | (simp;done) | (simp;assumption),HB0.out⟩
      ·have Co:(merged == 0)=false:=by simpa using h5
       rw[decide_eq_false h5]
       clear h5
       cases h6:b6 with
       | false=>
        go_enter Tryz.func124,Tryz.ntmps124
        go_wp2_with (first | (go_at_call 126;((with_reducible refine (Yf.out _).mono ?_);rintro e w2 ⟨rfl,rfl⟩)) | (go_at_call 126;((with_reducible refine (Vo.out _).mono ?_);rintro e w2 ⟨rfl,rfl⟩)) | (go_at_call 158;((with_reducible refine x8.out.mono ?_);rintro e w2 ⟨rfl,rfl⟩)) | (go_at_call 152;((with_reducible refine VR.out.mono ?_);rintro e w2 ⟨rfl,rfl⟩)) | (go_at_call 159;((with_reducible refine VQ.out.mono ?_);rintro e w2 ⟨rfl,rfl⟩)))
        go_ret
        exact ⟨by first | rfl | (simp;done) | (simp;assumption),HB0.out⟩
       | true=>
        by_cases h7:merged=id
        ·subst h7
         rw[show decide (merged≠merged)=false by simp]
         go_enter Tryz.func124,Tryz.ntmps124
         go_wp2_with (first | (go_at_call 126;((with_reducible refine (Yf.out _).mono ?_);rintro e w2 ⟨rfl,rfl⟩)) | (go_at_call 126;((with_reducible refine (Vo.out _).mono ?_);rintro e w2 ⟨rfl,rfl⟩)) | (go_at_call 158;((with_reducible refine x8.out.mono ?_);rintro e w2 ⟨rfl,rfl⟩)) | (go_at_call 152;((with_reducible refine VR.out.mono ?_);rintro e w2 ⟨rfl,rfl⟩)) | (go_at_call 159;((with_reducible refine VQ.out.mono ?_);rintro e w2 ⟨rfl,rfl⟩)))
         go_ret
         exact ⟨by first | rfl | (simp;done) | (simp;assumption),HB0.out⟩
        ·have O8:(merged == id)=false:=by simpa using h7
         rw[show decide (merged≠id)=true by simpa using h7]
         by_cases h8:Vj=0
         ·subst h8
          rw[decide_eq_true (rfl:(0:Nat)=0)]
          by_cases h9:Fq=0
          ·subst h9
           rw[decide_eq_true (rfl:(0:Nat)=0)]
           go_enter Tryz.func124,Tryz.ntmps124
           go_wp2_with (first | (go_at_call 126;((with_reducible refine (Yf.out _).mono ?_);rintro e w2 ⟨rfl,rfl⟩)) | (go_at_call 126;((with_reducible refine (Vo.out _).mono ?_);rintro e w2 ⟨rfl,rfl⟩)) | (go_at_call 158;((with_reducible refine x8.out.mono ?_);rintro e w2 ⟨rfl,rfl⟩)) | (go_at_call 152;((with_reducible refine VR.out.mono ?_);rintro e w2 ⟨rfl,rfl⟩)) | (go_at_call 159;((with_reducible refine VQ.out.mono ?_);rintro e w2 ⟨rfl,rfl⟩)))
           go_ret
           exact ⟨by first | rfl | (simp;done) | (simp;assumption),HB0.out⟩
          ·have NW:((Fq:Int) == 0)=false:=by simpa using h9
           rw[decide_eq_false h9]
           go_enter Tryz.func124,Tryz.ntmps124
           go_wp2_with (first | (go_at_call 126;((with_reducible refine (Yf.out _).mono ?_);rintro e w2 ⟨rfl,rfl⟩)) | (go_at_call 126;((with_reducible refine (Vo.out _).mono ?_);rintro e w2 ⟨rfl,rfl⟩)) | (go_at_call 158;((with_reducible refine x8.out.mono ?_);rintro e w2 ⟨rfl,rfl⟩)) | (go_at_call 152;((with_reducible refine VR.out.mono ?_);rintro e w2 ⟨rfl,rfl⟩)) | (go_at_call 159;((with_reducible refine VQ.out.mono ?_);rintro e w2 ⟨rfl,rfl⟩)))
           go_ret
           exact ⟨by first | rfl | (simp;done) | (simp;assumption),HB0.out⟩
         ·have OC:((Vj:Int) == 0)=false:=by simpa using h8
          rw[decide_eq_false h8]
          go_enter Tryz.func124,Tryz.ntmps124
          go_wp2_with (first | (go_at_call 126;((with_reducible refine (Yf.out _).mono ?_);rintro e w2 ⟨rfl,rfl⟩)) | (go_at_call 126;((with_reducible refine (Vo.out _).mono ?_);rintro e w2 ⟨rfl,rfl⟩)) | (go_at_call 158;((with_reducible refine x8.out.mono ?_);rintro e w2 ⟨rfl,rfl⟩)) | (go_at_call 152;((with_reducible refine VR.out.mono ?_);rintro e w2 ⟨rfl,rfl⟩)) | (go_at_call 159;((with_reducible refine VQ.out.mono ?_);rintro e w2 ⟨rfl,rfl⟩)))
          go_ret
          exact ⟨by first | rfl | (simp;done) | (simp;assumption),HB0.out⟩
   ·rw[decide_eq_false h2]
    have Cv:(1000:Int)<Vj:=(by omega);have wJ:1000<Vj:=(by omega)
    go_enter Tryz.func124,Tryz.ntmps124
    go_wp2_with (first | (go_at_call 126;((with_reducible refine (Yf.out _).mono ?_);rintro e w2 ⟨rfl,rfl⟩)) | (go_at_call 126;((with_reducible refine (Vo.out _).mono ?_);rintro e w2 ⟨rfl,rfl⟩)) | (go_at_call 158;((with_reducible refine x8.out.mono ?_);rintro e w2 ⟨rfl,rfl⟩)) | (go_at_call 152;((with_reducible refine VR.out.mono ?_);rintro e w2 ⟨rfl,rfl⟩)) | (go_at_call 159;((with_reducible refine VQ.out.mono ?_);rintro e w2 ⟨rfl,rfl⟩)))
    go_ret
    exact ⟨by first | rfl | (simp;done) | (simp;assumption),HB0.out⟩
end Go.Proofs.YtdhcjhfgibmhfaaGreatDoor
