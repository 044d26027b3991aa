import Derived.Test.YtdhcjhfgibmhfaaGreatDoorRows
import Derived.Test.YtdhcjhfgibmhfaaGreatDoorJG1
import Derived.ProofKit
import Derived.LaidMore
import Derived.MakeChecks
import Derived.Stop.Joined
import Derived.Shelf.SlGeneric
import Derived.Shelf.SlSortCmp.WholeK
import Derived.Ground.SlsfProg
import Derived.Shelf.SlIterI.Nil
import Derived.Shelf.SortM.Plain
import Derived.Shelf.SortM.SortNone
import Derived.Ground.GgzProg
import Derived.Ground.SlgmProg
import Derived.Test.YtdhcjhfgibmhfaaGreatDoorProg
import Derived.Deep.RegionLaw
import Derived.Deep.MidRow
import Derived.Laws.Rows
import Derived.Laws.StructEq
import Derived.ChangeKeysEq
set_option linter.unusedVariables false
set_option linter.unusedSimpArgs false
set_option maxRecDepth 10000
set_option maxHeartbeats 4000000
namespace Go.Proofs.YtdhcjhfgibmhfaaGreatDoor
open Go.RowKit Go.Own Go.Quo Go.Inc
theorem Iz:Tryz.prog.globalNamed "math/bits.deBruijn64tab"=some 0:=by kernel_rfl
theorem Cj:(Tryz.prog.globals[0]?).map (·.type)=some 223:=by kernel_rfl
theorem c148:Tryz.prog.cellsOf 223=64:=by kernel_rfl
theorem NZ:Tryz.prog.cellsOf 5=1:=by kernel_rfl
def laidT:List (String × DataW Unit):=[("math/bits.deBruijn64tab",Rows.laid_math_bits_deBruijn64tab)]
theorem F8:(Rows.laid_math_bits_deBruijn64tab:DataW Unit)=.agg (FB.map fun n:Nat=>.lit (.int .u8 (n:Int))):=by rfl
theorem tab_of_laid {W:World}(h:laidMetH Tryz.prog laidT W):jg W:=by
 rw[MakeChecks.laidMetH_plain _ _ _ (by kernel_rfl)] at h
 obtain ⟨ps,⟨g0,t0,cs0,f0,p0,q0,hg0,ht0,hv0,hd0,-,-⟩,-,-⟩:=h
 obtain rfl:=Option.some.inj (Iz.symm.trans hg0)
 obtain rfl:=Option.some.inj (Cj.symm.trans ht0)
 rw[F8] at hd0
 obtain ⟨xs,m1,-,hx1,hlen,hn,hel⟩:=DataW.trod_array Tryz.underlying223 hd0
 rw[c148] at hlen
 have hcell:=fun (i:Nat)=>World.var?_cell hg0 hv0 i
 simp only[Prod.mk.injEq,DataW.agg.injEq] at hx1
 have key:∀ (i:Nat) (v:Value),Er[i]?=some v→cs0[i]?=some v:=by
  intro i v hv
  have hi:i<64:=by
   have:=(Array.getElem?_eq_some_iff.1 hv).1
   simpa [Er,FB] using this
  have h1:=hel i hi
  rw[NZ,Nat.mul_one] at h1
  have hx:=congrArg (fun l=>l[i]?) hx1.1
  simp only[List.getElem?_map] at hx
  have hxi:i<xs.length:=by rw[hn];exact hi
  rw[List.getElem?_eq_getElem hxi] at h1 hx
  obtain ⟨k,e1,e2,-⟩:=DataW.trod_int Tryz.underlying5 h1
  have hci:i<cs0.toList.length:=by rw[hlen];exact hi
  rw[List.drop_eq_getElem_cons hci] at e1
  simp at e1
  unfold Er at hv
  simp only[List.getElem?_toArray,List.getElem?_map] at hv
  cases ht:FB[i]? with
  | none=>rw[ht] at hv;cases hv
  | some n=>
   rw[ht] at hv hx
   simp only[Option.map_some,Option.some.injEq] at hv hx
   rw[e2] at hx
   simp at hx
   rw[←hv,hx,←e1]
   simp at hci
   simp[hci]
 have hlt:0<W.heap.size:=by
  have h0:=key 0 (.int .u8 0) (by rfl)
  have:=hcell 0
  rw[h0] at this
  exact World.block_lt_of_cell? _ _ this
 exact ⟨hlt,fun i v hv=>(hcell i).trans (key i v hv)⟩
theorem door_met (os:Os)(args:Array Value):laidMetH Tryz.prog laidT ((World.doorLaid Tryz.prog 400 os).forCall (fun _ _=>0) ⟨#[],args,[]⟩).memory:=
 laidMetH_of_parts3 (fuel:=8) (laidMet_of_run' 8 (by kernel_rfl) (by kernel_rfl)) (by kernel_rfl) (by kernel_rfl)
end Go.Proofs.YtdhcjhfgibmhfaaGreatDoor
namespace Go.Proofs
open Go.Shelf
def Tryz.sortF_ren:Go.Shelf.Ren:=⟨fun | 6=>146 | 15=>106 | 14=>167 | 28=>143 | 29=>144 | 20=>183 | 21=>184 | 22=>185 | 23=>186 | 24=>187 | 25=>188 | 26=>189 | 27=>190 | 46=>199 | 47=>163 | 48=>164 | 49=>200 | 50=>201 | 57=>206 | n=>n,fun | 22=>27 | 24=>34 | 25=>177 | 3=>3 | 39=>138 | 0=>0 | 53=>171 | 55=>68 | 4=>4 | 46=>165 | 45=>164 | 50=>123 | 5=>5 | 9=>9 | 66=>183 | 70=>186 | 76=>200 | 77=>201 | n=>n,fun | n=>n⟩
theorem Tryz.sortF:Go.Proofs.SlLaysF0.n6 Tryz.prog Tryz.sortF_ren:={
 mixed:=by kernel_rfl
 f6:=⟨Tryz.f146.name,by decide,Tryz.func146.trans (congrArg some (by kernel_rfl))⟩
 f14:=⟨Tryz.f167.name,by decide,Tryz.func167.trans (congrArg some (by kernel_rfl))⟩
 f15:=Tryz.func106.trans (congrArg some (by kernel_rfl))
 f20:=⟨Tryz.f183.name,by decide,Tryz.func183.trans (congrArg some (by kernel_rfl))⟩
 f21:=⟨Tryz.f184.name,by decide,Tryz.func184.trans (congrArg some (by kernel_rfl))⟩
 f22:=⟨Tryz.f185.name,by decide,Tryz.func185.trans (congrArg some (by kernel_rfl))⟩
 f23:=⟨Tryz.f186.name,by decide,Tryz.func186.trans (congrArg some (by kernel_rfl))⟩
 f24:=⟨Tryz.f187.name,by decide,Tryz.func187.trans (congrArg some (by kernel_rfl))⟩
 f25:=⟨Tryz.f188.name,by decide,Tryz.func188.trans (congrArg some (by kernel_rfl))⟩
 f26:=⟨Tryz.f189.name,by decide,Tryz.func189.trans (congrArg some (by kernel_rfl))⟩
 f27:=⟨Tryz.f190.name,by decide,Tryz.func190.trans (congrArg some (by kernel_rfl))⟩
 f28:=Tryz.func143.trans (congrArg some (by kernel_rfl))
 f29:=Tryz.func144.trans (congrArg some (by kernel_rfl))
 f46:=⟨Tryz.f199.name,by decide,Tryz.func199.trans (congrArg some (by kernel_rfl))⟩
 f47:=Tryz.func163.trans (congrArg some (by kernel_rfl))
 f48:=Tryz.func164.trans (congrArg some (by kernel_rfl))
 f49:=⟨Tryz.f200.name,by decide,Tryz.func200.trans (congrArg some (by kernel_rfl))⟩
 f50:=⟨Tryz.f201.name,by decide,Tryz.func201.trans (congrArg some (by kernel_rfl))⟩
 f57:=⟨Tryz.f206.name,by decide,Tryz.func206.trans (congrArg some (by kernel_rfl))⟩
 t0:=Tryz.underlying0
 a0:=Tryz.isAgg0
 z0:=Tryz.sizeOf0
 v0:=Tryz.zeroValue0
 t3:=Tryz.underlying3
 a3:=Tryz.isAgg3
 z3:=Tryz.sizeOf3
 v3:=Tryz.zeroValue3
 t4:=Tryz.underlying4
 a4:=Tryz.isAgg4
 z4:=Tryz.sizeOf4
 v4:=Tryz.zeroValue4
 t5:=Tryz.underlying5
 a5:=Tryz.isAgg5
 z5:=Tryz.sizeOf5
 v5:=Tryz.zeroValue5
 t9:=Tryz.underlying9
 a9:=Tryz.isAgg9
 z9:=Tryz.sizeOf9
 v9:=Tryz.zeroValue9
 t22:=Tryz.underlying27
 a22:=Tryz.isAgg27
 z22:=Tryz.sizeOf27
 v22:=Tryz.zeroValue27
 t25:=Tryz.underlying177
 a25:=Tryz.isAgg177
 z25:=Tryz.sizeOf177
 v25:=Tryz.zeroValue177
 t39:=Tryz.underlying138
 a39:=Tryz.isAgg138
 z39:=Tryz.sizeOf138
 v39:=Tryz.zeroValue138
 t45:=Tryz.underlying164
 a45:=Tryz.isAgg164
 z45:=Tryz.sizeOf164
 v45:=Tryz.zeroValue164
 t46:=Tryz.underlying165
 a46:=Tryz.isAgg165
 z46:=Tryz.sizeOf165
 v46:=Tryz.zeroValue165
 t50:=Tryz.underlying123
 a50:=Tryz.isAgg123
 z50:=Tryz.sizeOf123
 v50:=Tryz.zeroValue123
 t53:=Tryz.underlying171
 a53:=Tryz.isAgg171
 z53:=Tryz.sizeOf171
 v53:=Tryz.zeroValue171
 t55:=Tryz.underlying68
 a55:=Tryz.isAgg68
 z55:=Tryz.sizeOf68
 v55:=Tryz.zeroValue68
 t66:=Tryz.underlying183
 a66:=Tryz.isAgg183
 z66:=Tryz.sizeOf183
 v66:=Tryz.zeroValue183
 t70:=Tryz.underlying186
 a70:=Tryz.isAgg186
 z70:=Tryz.sizeOf186
 v70:=Tryz.zeroValue186
 t76:=Tryz.underlying200
 a76:=Tryz.isAgg200
 z76:=Tryz.sizeOf200
 v76:=Tryz.zeroValue200
 t77:=Tryz.underlying201
 a77:=Tryz.isAgg201
 z77:=Tryz.sizeOf201
 v77:=Tryz.zeroValue201 }
def Tryz.keysC_ren:Go.Shelf.Ren:=⟨fun | 7=>65 | 10=>112 | n=>n,fun | 23=>85 | 26=>2 | 3=>34 | 28=>103 | 0=>0 | 27=>102 | 33=>91 | 4=>4 | n=>n,fun | n=>n⟩
theorem Tryz.keysC:Go.Proofs.SlLaysZI.n7 Tryz.prog Tryz.keysC_ren:={
 mixed:=by kernel_rfl
 f7:=⟨Tryz.f65.name,by decide,Tryz.func65.trans (congrArg some (by kernel_rfl))⟩
 f10:=⟨Tryz.f112.name,by decide,Tryz.func112.trans (congrArg some (by kernel_rfl))⟩
 t0:=Tryz.underlying0
 a0:=Tryz.isAgg0
 z0:=Tryz.sizeOf0
 v0:=Tryz.zeroValue0
 t4:=Tryz.underlying4
 a4:=Tryz.isAgg4
 z4:=Tryz.sizeOf4
 v4:=Tryz.zeroValue4
 t23:=Tryz.underlying85
 a23:=Tryz.isAgg85
 z23:=Tryz.sizeOf85
 v23:=Tryz.zeroValue85
 t26:=Tryz.underlying2
 a26:=Tryz.isAgg2
 z26:=Tryz.sizeOf2
 v26:=Tryz.zeroValue2
 t27:=Tryz.underlying102
 a27:=Tryz.isAgg102
 z27:=Tryz.sizeOf102
 v27:=Tryz.zeroValue102
 t28:=Tryz.underlying103
 a28:=Tryz.isAgg103
 z28:=Tryz.sizeOf103
 v28:=Tryz.zeroValue103
 t33:=Tryz.underlying91
 a33:=Tryz.isAgg91
 z33:=Tryz.sizeOf91
 v33:=Tryz.zeroValue91 }
def Tryz.keysI_ren:Go.Shelf.Ren:=⟨fun | 7=>67 | 10=>117 | n=>n,fun | 23=>86 | 26=>2 | 3=>48 | 28=>103 | 0=>0 | 27=>102 | 33=>91 | 4=>4 | n=>n,fun | n=>n⟩
theorem Tryz.keysI:Go.Proofs.SlLaysZI.n7 Tryz.prog Tryz.keysI_ren:={
 mixed:=by kernel_rfl
 f7:=⟨Tryz.f67.name,by decide,Tryz.func67.trans (congrArg some (by kernel_rfl))⟩
 f10:=⟨Tryz.f117.name,by decide,Tryz.func117.trans (congrArg some (by kernel_rfl))⟩
 t0:=Tryz.underlying0
 a0:=Tryz.isAgg0
 z0:=Tryz.sizeOf0
 v0:=Tryz.zeroValue0
 t4:=Tryz.underlying4
 a4:=Tryz.isAgg4
 z4:=Tryz.sizeOf4
 v4:=Tryz.zeroValue4
 t23:=Tryz.underlying86
 a23:=Tryz.isAgg86
 z23:=Tryz.sizeOf86
 v23:=Tryz.zeroValue86
 t26:=Tryz.underlying2
 a26:=Tryz.isAgg2
 z26:=Tryz.sizeOf2
 v26:=Tryz.zeroValue2
 t27:=Tryz.underlying102
 a27:=Tryz.isAgg102
 z27:=Tryz.sizeOf102
 v27:=Tryz.zeroValue102
 t28:=Tryz.underlying103
 a28:=Tryz.isAgg103
 z28:=Tryz.sizeOf103
 v28:=Tryz.zeroValue103
 t33:=Tryz.underlying91
 a33:=Tryz.isAgg91
 z33:=Tryz.sizeOf91
 v33:=Tryz.zeroValue91 }
def Tryz.sortedA_ren:Go.Shelf.Ren:=⟨fun | 6=>64 | 8=>110 | 9=>111 | 11=>154 | 13=>106 | 12=>155 | 23=>143 | 24=>144 | 14=>172 | 15=>173 | 16=>174 | 17=>175 | 18=>176 | 19=>177 | 20=>178 | 21=>179 | 22=>180 | 25=>196 | 26=>163 | 27=>164 | 28=>197 | 29=>198 | 30=>168 | 31=>205 | n=>n,fun | 26=>2 | 28=>103 | 24=>46 | 0=>0 | 3=>3 | 37=>138 | 48=>171 | 50=>68 | 4=>4 | 40=>165 | 39=>164 | 45=>123 | 5=>5 | 9=>9 | 51=>183 | 55=>186 | 57=>200 | 58=>201 | 33=>91 | n=>n,fun | n=>n⟩
theorem Tryz.sortedA:Go.Proofs.SlLaysZI.n6 Tryz.prog Tryz.sortedA_ren:={
 mixed:=by kernel_rfl
 f6:=⟨Tryz.f64.name,by decide,Tryz.func64.trans (congrArg some (by kernel_rfl))⟩
 f8:=⟨Tryz.f110.name,by decide,Tryz.func110.trans (congrArg some (by kernel_rfl))⟩
 f11:=⟨Tryz.f154.name,by decide,Tryz.func154.trans (congrArg some (by kernel_rfl))⟩
 t0:=Tryz.underlying0
 a0:=Tryz.isAgg0
 z0:=Tryz.sizeOf0
 v0:=Tryz.zeroValue0
 t24:=Tryz.underlying46
 a24:=Tryz.isAgg46
 z24:=Tryz.sizeOf46
 v24:=Tryz.zeroValue46
 t26:=Tryz.underlying2
 a26:=Tryz.isAgg2
 z26:=Tryz.sizeOf2
 v26:=Tryz.zeroValue2
 t28:=Tryz.underlying103
 a28:=Tryz.isAgg103
 z28:=Tryz.sizeOf103
 v28:=Tryz.zeroValue103
 i26:=by kernel_rfl }
def Tryz.sortA_ren:Go.Shelf.Ren:=⟨fun | 5=>111 | 8=>106 | 7=>155 | 19=>143 | 20=>144 | 10=>172 | 11=>173 | 12=>174 | 13=>175 | 14=>176 | 15=>177 | 16=>178 | 17=>179 | 18=>180 | 30=>196 | 31=>163 | 32=>164 | 33=>197 | 34=>198 | 35=>168 | 40=>205 | n=>n,fun | 23=>46 | 25=>2 | 3=>3 | 32=>138 | 22=>46 | 0=>0 | 44=>171 | 46=>68 | 4=>4 | 36=>165 | 35=>164 | 41=>123 | 5=>5 | 9=>9 | 53=>183 | 57=>186 | 63=>200 | 64=>201 | n=>n,fun | n=>n⟩
theorem Tryz.sortA:Go.Proofs.SlLaysM.n5 Tryz.prog Tryz.sortA_ren:={
 mixed:=by kernel_rfl
 f5:=⟨Tryz.f111.name,by decide,Tryz.func111.trans (congrArg some (by kernel_rfl))⟩
 f7:=⟨Tryz.f155.name,by decide,Tryz.func155.trans (congrArg some (by kernel_rfl))⟩
 f8:=Tryz.func106.trans (congrArg some (by kernel_rfl))
 f10:=⟨Tryz.f172.name,by decide,Tryz.func172.trans (congrArg some (by kernel_rfl))⟩
 f11:=⟨Tryz.f173.name,by decide,Tryz.func173.trans (congrArg some (by kernel_rfl))⟩
 f12:=⟨Tryz.f174.name,by decide,Tryz.func174.trans (congrArg some (by kernel_rfl))⟩
 f13:=⟨Tryz.f175.name,by decide,Tryz.func175.trans (congrArg some (by kernel_rfl))⟩
 f14:=⟨Tryz.f176.name,by decide,Tryz.func176.trans (congrArg some (by kernel_rfl))⟩
 f15:=⟨Tryz.f177.name,by decide,Tryz.func177.trans (congrArg some (by kernel_rfl))⟩
 f16:=⟨Tryz.f178.name,by decide,Tryz.func178.trans (congrArg some (by kernel_rfl))⟩
 f17:=⟨Tryz.f179.name,by decide,Tryz.func179.trans (congrArg some (by kernel_rfl))⟩
 f18:=⟨Tryz.f180.name,by decide,Tryz.func180.trans (congrArg some (by kernel_rfl))⟩
 f19:=Tryz.func143.trans (congrArg some (by kernel_rfl))
 f20:=Tryz.func144.trans (congrArg some (by kernel_rfl))
 f30:=⟨Tryz.f196.name,by decide,Tryz.func196.trans (congrArg some (by kernel_rfl))⟩
 f31:=Tryz.func163.trans (congrArg some (by kernel_rfl))
 f32:=Tryz.func164.trans (congrArg some (by kernel_rfl))
 f33:=⟨Tryz.f197.name,by decide,Tryz.func197.trans (congrArg some (by kernel_rfl))⟩
 f34:=⟨Tryz.f198.name,by decide,Tryz.func198.trans (congrArg some (by kernel_rfl))⟩
 f35:=⟨Tryz.f168.name,by decide,Tryz.func168.trans (congrArg some (by kernel_rfl))⟩
 f40:=⟨Tryz.f205.name,by decide,Tryz.func205.trans (congrArg some (by kernel_rfl))⟩
 t0:=Tryz.underlying0
 a0:=Tryz.isAgg0
 z0:=Tryz.sizeOf0
 v0:=Tryz.zeroValue0
 t3:=Tryz.underlying3
 a3:=Tryz.isAgg3
 z3:=Tryz.sizeOf3
 v3:=Tryz.zeroValue3
 t4:=Tryz.underlying4
 a4:=Tryz.isAgg4
 z4:=Tryz.sizeOf4
 v4:=Tryz.zeroValue4
 t5:=Tryz.underlying5
 a5:=Tryz.isAgg5
 z5:=Tryz.sizeOf5
 v5:=Tryz.zeroValue5
 t9:=Tryz.underlying9
 a9:=Tryz.isAgg9
 z9:=Tryz.sizeOf9
 v9:=Tryz.zeroValue9
 t22:=Tryz.underlying46
 a22:=Tryz.isAgg46
 z22:=Tryz.sizeOf46
 v22:=Tryz.zeroValue46
 t23:=Tryz.underlying46
 a23:=Tryz.isAgg46
 z23:=Tryz.sizeOf46
 v23:=Tryz.zeroValue46
 t25:=Tryz.underlying2
 a25:=Tryz.isAgg2
 z25:=Tryz.sizeOf2
 v25:=Tryz.zeroValue2
 t32:=Tryz.underlying138
 a32:=Tryz.isAgg138
 z32:=Tryz.sizeOf138
 v32:=Tryz.zeroValue138
 t35:=Tryz.underlying164
 a35:=Tryz.isAgg164
 z35:=Tryz.sizeOf164
 v35:=Tryz.zeroValue164
 t36:=Tryz.underlying165
 a36:=Tryz.isAgg165
 z36:=Tryz.sizeOf165
 v36:=Tryz.zeroValue165
 t41:=Tryz.underlying123
 a41:=Tryz.isAgg123
 z41:=Tryz.sizeOf123
 v41:=Tryz.zeroValue123
 t44:=Tryz.underlying171
 a44:=Tryz.isAgg171
 z44:=Tryz.sizeOf171
 v44:=Tryz.zeroValue171
 t46:=Tryz.underlying68
 a46:=Tryz.isAgg68
 z46:=Tryz.sizeOf68
 v46:=Tryz.zeroValue68
 t53:=Tryz.underlying183
 a53:=Tryz.isAgg183
 z53:=Tryz.sizeOf183
 v53:=Tryz.zeroValue183
 t57:=Tryz.underlying186
 a57:=Tryz.isAgg186
 z57:=Tryz.sizeOf186
 v57:=Tryz.zeroValue186
 t63:=Tryz.underlying200
 a63:=Tryz.isAgg200
 z63:=Tryz.sizeOf200
 v63:=Tryz.zeroValue200
 t64:=Tryz.underlying201
 a64:=Tryz.isAgg201
 z64:=Tryz.sizeOf201
 v64:=Tryz.zeroValue201 }
end Go.Proofs
namespace Go.Proofs.YtdhcjhfgibmhfaaGreatDoor
open Go.RowKit Go.Own Go.Quo Go.Inc
theorem Kz {s:ByteArray}{i:Nat}(h:i<s.size):s.get! i=s[i]:=by
 show s.data[i]! = s.data[i]
 exact getElem!_pos s.data i h
theorem ZQ {s:ByteArray}:qZ s=true↔1≤s.size∧s.size≤40∧∀ i,i<s.size→xR (s.get! i)=true:=by
 unfold qZ;simp[and_assoc]
theorem Bb (s:ByteArray)(w:World)(hs:s.size≤100000):Calls Tryz.prog 181 #[.string s] w (jr (qZ s) w):=by
 by_cases h1:s.size<1
 ·have hq:qZ s=false:=by
   cases hb:qZ s with
   | false=>rfl
   | true=>have:=(ZQ.1 hb).1;omega
  rw[hq]
  have d1:decide ((s.size:Int)<1)=true:=by simp;omega
  clear h1 hq
  go_enter Tryz.func181,Tryz.ntmps181
  go_wp2_with fail
  go_ret
  exact ⟨by simp,rfl⟩
 ·have d1:decide ((s.size:Int)<1)=false:=by simp;omega
  by_cases h2:40<s.size
  ·have hq:qZ s=false:=by
    cases hb:qZ s with
    | false=>rfl
    | true=>have:=(ZQ.1 hb).2.1;omega
   rw[hq]
   have d2:decide ((40:Int)<s.size)=true:=by simp;omega
   clear h1 h2 hq
   go_enter Tryz.func181,Tryz.ntmps181
   go_wp2_with fail
   go_ret
   exact ⟨by simp,rfl⟩
  ·have d2:decide ((40:Int)<s.size)=false:=by simp;omega
   have HT:=ħ (fun h0:(∀ i,i<s.size→xR (s.get! i)=true)=>ZQ.2 ⟨by omega,by omega,h0⟩)
   have HF:=ħ (fun (i:Nat) (h0:i<s.size) (h3:xR (s.get! i)=false)=>show qZ s=false from by
    cases hb:qZ s with
    | false=>rfl
    | true=>have:=(ZQ.1 hb).2.2 i h0;rw[h3] at this;cases this)
   clear h1
   generalize qZ s=q at *
   go_enter Tryz.func181,Tryz.ntmps181
   go_wp2_with fail
   go_loopw [14] (fun vi wr=>∃ (k:Nat),k≤s.size∧vi=ι k∧(∀ i,i<k→xR (s.get! i)=true)∧wr=w) (fun vi _=>s.size - (intOf vi).toNat)
   case atStart=>exact ⟨0,Nat.zero_le _,rfl,fun i hi=>by omega,rfl⟩
   case round=>
    obtain ⟨k,hk,rfl,hall,rfl⟩:=hrel
    have HA:=ħ hall
    clear hall
    by_cases hlt:k<s.size
    ·have hlt':(k:Int)<s.size:=by omega
     have hgb:=Kz hlt
     by_cases h3:((s[k].toNat:Nat):Int)<33
     ·have hq:=HF.out k hlt (by rw[hgb];unfold xR;simp;omega)
      have d3:decide (((s[k].toNat:Nat):Int)<33)=true:=by simpa using h3
      clear HF HT hgb
      go_wp2_with fail
      go_ret
      exact ⟨by first | (rw[hq];rfl) | simp,rfl⟩
     ·have d3:decide (((s[k].toNat:Nat):Int)<33)=false:=by simpa using h3
      by_cases h4:(126:Int)<((s[k].toNat:Nat):Int)
      ·have hq:=HF.out k hlt (by rw[hgb];unfold xR;simp;omega)
       have d4:decide ((126:Int)<((s[k].toNat:Nat):Int))=true:=by simpa using h4
       clear HF HT hgb
       go_wp2_with fail
       go_ret
       exact ⟨by first | (rw[hq];rfl) | simp,rfl⟩
      ·have d4:decide ((126:Int)<((s[k].toNat:Nat):Int))=false:=by simpa using h4
       have HN:=ħ (show ∀ i,i<k+1→xR (s.get! i)=true from fun i hi=>by
        rcases (by omega:i<k∨i=k) with e | rfl
        ·exact HA.out i e
        ·rw[hgb];unfold xR;simp;omega)
       clear HF HT hgb
       go_wp2_with fail
       exact ⟨⟨k+1,by omega,by go_num,HN.out,(by first | rfl | trivial)⟩,by simp[intOf];omega⟩
    ·have hlt':¬ (k:Int)<s.size:=by omega
     have he:k=s.size:=by omega
     subst he
     have hq:=HT.out HA.out
     go_wp2_with fail
     go_ret
     exact ⟨by first | (rw[hq];rfl) | simp,rfl⟩
theorem Kr (B:Nat→Prop)(urg dist since:Int)(code:ByteArray)(A:Option Addr)(c:Nat)(nodes:List Int)(w:World)(hs:code.size≤100000)(h:RI w B A nodes)(hl:nodes.length≤100000) :
 Calls Tryz.prog 158 #[ι urg,.string code,.slice A nodes.length c,ι dist,ι since] w (jr (yK urg code nodes dist since) w):=by
 have BZ:=ħ (Bb code w hs)
 have VQ:=ħ (Ht B A c nodes 0 4095 w h hl)
 unfold yK Qo
 clear h
 generalize qZ code=b2 at *
 generalize qf nodes 0 4095=b4 at *
 cases h0:decide (1≤urg) with
 | false=>
  go_enter Tryz.func158,Tryz.ntmps158
  go_wp2_with (first | (go_at_call 181;((with_reducible refine BZ.out.mono ?_);rintro e w2 ⟨rfl,rfl⟩)) | (go_at_call 159;((with_reducible refine VQ.out.mono ?_);rintro e w2 ⟨rfl,rfl⟩)))
  go_ret
  exact ⟨by first | rfl | simp,rfl⟩
 | true=>
  cases h1:decide (urg≤5) with
  | false=>
   go_enter Tryz.func158,Tryz.ntmps158
   go_wp2_with (first | (go_at_call 181;((with_reducible refine BZ.out.mono ?_);rintro e w2 ⟨rfl,rfl⟩)) | (go_at_call 159;((with_reducible refine VQ.out.mono ?_);rintro e w2 ⟨rfl,rfl⟩)))
   go_ret
   exact ⟨by first | rfl | simp,rfl⟩
  | true=>
   cases h2:b2 with
   | false=>
    go_enter Tryz.func158,Tryz.ntmps158
    go_wp2_with (first | (go_at_call 181;((with_reducible refine BZ.out.mono ?_);rintro e w2 ⟨rfl,rfl⟩)) | (go_at_call 159;((with_reducible refine VQ.out.mono ?_);rintro e w2 ⟨rfl,rfl⟩)))
    go_ret
    exact ⟨by first | rfl | simp,rfl⟩
   | true=>
    by_cases h3:0<nodes.length
    ·rw[decide_eq_true h3]
     cases h4:b4 with
     | false=>
      go_enter Tryz.func158,Tryz.ntmps158
      go_wp2_with (first | (go_at_call 181;((with_reducible refine BZ.out.mono ?_);rintro e w2 ⟨rfl,rfl⟩)) | (go_at_call 159;((with_reducible refine VQ.out.mono ?_);rintro e w2 ⟨rfl,rfl⟩)))
      go_ret
      exact ⟨by first | rfl | simp,rfl⟩
     | true=>
      cases h5:decide (0≤dist) with
      | false=>
       go_enter Tryz.func158,Tryz.ntmps158
       go_wp2_with (first | (go_at_call 181;((with_reducible refine BZ.out.mono ?_);rintro e w2 ⟨rfl,rfl⟩)) | (go_at_call 159;((with_reducible refine VQ.out.mono ?_);rintro e w2 ⟨rfl,rfl⟩)))
       go_ret
       exact ⟨by first | rfl | simp,rfl⟩
      | true=>
       cases h6:decide (dist<9) with
       | false=>
        go_enter Tryz.func158,Tryz.ntmps158
        go_wp2_with (first | (go_at_call 181;((with_reducible refine BZ.out.mono ?_);rintro e w2 ⟨rfl,rfl⟩)) | (go_at_call 159;((with_reducible refine VQ.out.mono ?_);rintro e w2 ⟨rfl,rfl⟩)))
        go_ret
        exact ⟨by first | rfl | simp,rfl⟩
       | true=>
        cases h7:decide (0≤since) with
        | false=>
         go_enter Tryz.func158,Tryz.ntmps158
         go_wp2_with (first | (go_at_call 181;((with_reducible refine BZ.out.mono ?_);rintro e w2 ⟨rfl,rfl⟩)) | (go_at_call 159;((with_reducible refine VQ.out.mono ?_);rintro e w2 ⟨rfl,rfl⟩)))
         go_ret
         exact ⟨by first | rfl | simp,rfl⟩
        | true=>
         cases h8:decide (since≤1099511627776) with
         | false=>
          go_enter Tryz.func158,Tryz.ntmps158
          go_wp2_with (first | (go_at_call 181;((with_reducible refine BZ.out.mono ?_);rintro e w2 ⟨rfl,rfl⟩)) | (go_at_call 159;((with_reducible refine VQ.out.mono ?_);rintro e w2 ⟨rfl,rfl⟩)))
          go_ret
          exact ⟨by first | rfl | simp,rfl⟩
         | true=>
          go_enter Tryz.func158,Tryz.ntmps158
          go_wp2_with (first | (go_at_call 181;((with_reducible refine BZ.out.mono ?_);rintro e w2 ⟨rfl,rfl⟩)) | (go_at_call 159;((with_reducible refine VQ.out.mono ?_);rintro e w2 ⟨rfl,rfl⟩)))
          go_ret
          exact ⟨by first | rfl | simp,rfl⟩
    ·rw[decide_eq_false h3]
     go_enter Tryz.func158,Tryz.ntmps158
     go_wp2_with (first | (go_at_call 181;((with_reducible refine BZ.out.mono ?_);rintro e w2 ⟨rfl,rfl⟩)) | (go_at_call 159;((with_reducible refine VQ.out.mono ?_);rintro e w2 ⟨rfl,rfl⟩)))
     go_ret
     exact ⟨by first | rfl | simp,rfl⟩
theorem UL (B:Nat→Prop)(A:Option Addr)(c:Nat)(l:List Int)(lo hi:Int)(w:World)(h:RI w B A l)(hl:l.length≤100000):Calls Tryz.prog 120 #[.slice A l.length c,ι lo,ι hi] w (jr (qf l lo hi) w):=by
 have hp:=h.plain (by omega)
 have HT:=ħ (fun h0:(∀ i,i<l.length→qE l lo hi i=true)=>Zl.2 h0)
 have HF:=ħ (fun (i:Nat) (h0:i<l.length) (h1:qE l lo hi i=false)=>Yo h0 h1)
 have HR:=ħ h
 clear h
 generalize qf l lo hi=q at *
 go_enter Tryz.func120,Tryz.ntmps120
 go_wp2_with fail
 go_loopw [11] (fun vi wr=>∃ (k:Nat),k≤l.length∧vi=ι k∧(∀ i,i<k→qE l lo hi i=true)∧wr=w) (fun vi _=>l.length - (intOf vi).toNat)
 case atStart=>exact ⟨0,Nat.zero_le _,rfl,fun i hi=>by omega,rfl⟩
 case round=>
  obtain ⟨k,hk,rfl,hall,rfl⟩:=hrel
  have HA:=ħ hall
  clear hall
  by_cases hlt:k<l.length
  ·have hlt':(k:Int)<l.length:=by omega
   have hix:=fun W=>Ki hp c k hlt W
   have hc:=qJ HR.out hlt
   by_cases h1:gd l k<lo
   ·have hq:=HF.out k hlt (by unfold qE;simp;omega)
    have d1:decide (gd l k<lo)=true:=by simpa using h1
    clear h1 HF HT
    generalize gd l k=v at *
    go_wp2_with fail
    go_ret
    exact ⟨by first | (rw[hq];rfl) | simp,rfl⟩
   ·have d1:decide (gd l k<lo)=false:=by simpa using h1
    by_cases h2:hi<gd l k
    ·have hq:=HF.out k hlt (by unfold qE;simp;omega)
     have d2:decide (hi<gd l k)=true:=by simpa using h2
     clear h1 h2 HF HT
     generalize gd l k=v at *
     go_wp2_with fail
     go_ret
     exact ⟨by first | (rw[hq];rfl) | simp,rfl⟩
    ·have d2:decide (hi<gd l k)=false:=by simpa using h2
     by_cases h0:k=0
     ·have HN:=ħ (show ∀ i,i<k+1→qE l lo hi i=true from fun i hi'=>by
       have:i=k:=by omega
       subst this;unfold qE;simp[h0];rw[h0] at h1 h2;omega)
      have d3:decide ((0:Int)<(k:Int))=false:=by simp;omega
      have oh:¬ 0<k:=by omega
      clear h1 h2 HF HT h0
      generalize gd l k=v at *
      go_wp2_with fail
      exact ⟨⟨k+1,by omega,by go_num,HN.out,(by first | rfl | trivial)⟩,by simp[intOf];omega⟩
     ·have hk1:k - 1<l.length:=by omega
      have d3:decide ((0:Int)<(k:Int))=true:=by simp;omega
      have oh:0<k:=by omega
      have V5:=fun W=>Ki hp c (k - 1) hk1 W
      rw[show ((k - 1:Nat):Int)=(k:Int) - 1 by omega] at V5
      have hc1:=qJ HR.out hk1
      by_cases h3:gd l k≤gd l (k - 1)
      ·have hq:=HF.out k hlt (by unfold qE;simp;omega)
       have d4:decide (gd l k≤gd l (k - 1))=true:=by simpa using h3
       clear h1 h2 h3 HF HT h0
       generalize gd l k=v at *
       generalize gd l (k - 1)=v0 at *
       generalize k - 1=k1 at hc1 V5
       go_wp2_with fail
       go_ret
       exact ⟨by first | (rw[hq];rfl) | simp,rfl⟩
      ·have HN:=ħ (show ∀ i,i<k+1→qE l lo hi i=true from fun i hi'=>by
        rcases (by omega:i<k∨i=k) with e | rfl
        ·exact HA.out i e
        ·unfold qE;simp;omega)
       have d4:decide (gd l k≤gd l (k - 1))=false:=by simpa using h3
       clear h1 h2 h3 HF HT h0
       generalize gd l k=v at *
       generalize gd l (k - 1)=v0 at *
       generalize k - 1=k1 at hc1 V5
       go_wp2_with fail
       exact ⟨⟨k+1,by omega,by go_num,HN.out,(by first | rfl | trivial)⟩,by simp[intOf];omega⟩
  ·have hlt':¬ (k:Int)<l.length:=by omega
   have he:k=l.length:=by omega
   subst he
   have hq:=HT.out HA.out
   go_wp2_with fail
   go_ret
   exact ⟨by first | (rw[hq];rfl) | simp,rfl⟩
theorem ZW (n lo:Int)(w:World):Calls Tryz.prog 118 #[ι n,ι lo] w (jr (zQ n lo) w):=by
 unfold zQ Qo
 cases h1:decide (lo≤n) with
 | false=>
  go_enter Tryz.func118,Tryz.ntmps118
  go_wp2_with fail
  go_ret
  exact ⟨by first | rfl | simp,rfl⟩
 | true=>
  cases h2:decide (n≤1099511627776) with
  | false=>
   go_enter Tryz.func118,Tryz.ntmps118
   go_wp2_with fail
   go_ret
   exact ⟨by first | rfl | simp,rfl⟩
  | true=>
   go_enter Tryz.func118,Tryz.ntmps118
   go_wp2_with fail
   go_ret
   exact ⟨by first | rfl | simp,rfl⟩
theorem lD (s:ByteArray)(w:World)(hs:s.size≤100000):Calls Tryz.prog 157 #[.string s] w (jr (qZ s) w):=by
 have HT:=ħ (fun h0:(∀ i,i<s.size→xR (s.get! i)=true)=>show qZ s=(decide ((1:Int)≤s.size) && decide ((s.size:Int)≤40)) from by
  rw[Bool.eq_iff_iff,ZQ]
  simp only[Bool.and_eq_true,decide_eq_true_eq]
  exact ⟨fun h=>⟨by omega,by omega⟩,fun h=>⟨by omega,by omega,h0⟩⟩)
 have HF:=ħ (fun (i:Nat) (h0:i<s.size) (h3:xR (s.get! i)=false)=>show qZ s=false from by
  cases hb:qZ s with
  | false=>rfl
  | true=>have:=(ZQ.1 hb).2.2 i h0;rw[h3] at this;cases this)
 generalize qZ s=q at *
 go_enter Tryz.func157,Tryz.ntmps157
 go_wp2_with fail
 go_loopw [3] (fun vi wr=>∃ (k:Nat),k≤s.size∧vi=ι k∧(∀ i,i<k→xR (s.get! i)=true)∧wr=w) (fun vi _=>s.size - (intOf vi).toNat)
 case atStart=>exact ⟨0,Nat.zero_le _,rfl,fun i hi=>by omega,rfl⟩
 case round=>
  obtain ⟨k,hk,rfl,hall,rfl⟩:=hrel
  have HA:=ħ hall
  clear hall
  by_cases hlt:k<s.size
  ·have hlt':(k:Int)<s.size:=by omega
   have hgb:=Kz hlt
   by_cases h3:((s[k].toNat:Nat):Int)<33
   ·have hq:=HF.out k hlt (by rw[hgb];unfold xR;simp;omega)
    have d3:decide (((s[k].toNat:Nat):Int)<33)=true:=by simpa using h3
    clear HF HT hgb
    go_wp2_with fail
    go_ret
    exact ⟨by first | (rw[hq];rfl) | simp,rfl⟩
   ·have d3:decide (((s[k].toNat:Nat):Int)<33)=false:=by simpa using h3
    by_cases h4:(126:Int)<((s[k].toNat:Nat):Int)
    ·have hq:=HF.out k hlt (by rw[hgb];unfold xR;simp;omega)
     have d4:decide ((126:Int)<((s[k].toNat:Nat):Int))=true:=by simpa using h4
     clear HF HT hgb
     go_wp2_with fail
     go_ret
     exact ⟨by first | (rw[hq];rfl) | simp,rfl⟩
    ·have d4:decide ((126:Int)<((s[k].toNat:Nat):Int))=false:=by simpa using h4
     have HN:=ħ (show ∀ i,i<k+1→xR (s.get! i)=true from fun i hi=>by
      rcases (by omega:i<k∨i=k) with e | rfl
      ·exact HA.out i e
      ·rw[hgb];unfold xR;simp;omega)
     clear HF HT hgb
     go_wp2_with fail
     exact ⟨⟨k+1,by omega,by go_num,HN.out,(by first | rfl | trivial)⟩,by simp[intOf];omega⟩
  ·have hlt':¬ (k:Int)<s.size:=by omega
   have he:k=s.size:=by omega
   subst he
   have hq:=HT.out HA.out
   clear HA HT HF
   cases e1:decide ((1:Int)≤s.size) with
   | false=>
    rw[e1] at hq
    have Ox:¬ (1:Int)≤s.size:=by simpa using e1
    go_wp2_with fail
    go_ret
    exact ⟨by first | (rw[hq];rfl) | simp,rfl⟩
   | true=>
    rw[e1] at hq
    have Ox:(1:Int)≤s.size:=by simpa using e1
    cases e2:decide ((s.size:Int)≤40) with
    | false=>
     rw[e2] at hq
     have e2':¬ (s.size:Int)≤40:=by simpa using e2
     go_wp2_with fail
     go_ret
     exact ⟨by first | (rw[hq];rfl) | simp,rfl⟩
    | true=>
     rw[e2] at hq
     have e2':(s.size:Int)≤40:=by simpa using e2
     go_wp2_with fail
     go_ret
     exact ⟨by first | (rw[hq];rfl) | simp,rfl⟩
def qL (l:List Int)(t:TypeId)(w:World)(e:Ending)(w':World):Prop:=∃ A c,e=.returned (.slice A l.length c)∧w'.ownsRow w.heap.size t 1 (.slice A l.length c) l.length (l.map (Value.int .i64))∧Below w.heap.size w w'
theorem EB (B:Nat→Prop)(A:Option Addr)(c:Nat)(l:List Int)(w:World)(h:RI w B A l)(hl:l.length≤100000):Calls Tryz.prog 121 #[.slice A l.length c] w (qL l 2 w):=by
 have hp:=h.plain (by omega)
 have HR:=ħ ((h.old (by omega)).more (B':=fun k=>k<w.heap.size) (fun k hk=>hk.2))
 clear h
 go_enter Tryz.func121,Tryz.ntmps121
 go_wp2_with fail
 go_loopw [3,8] (fun va vi wr=>∃ (k:Nat) (A':Option Addr) (c':Nat),k≤l.length∧vi=ι k∧va=.slice A' k c'∧wr.ownsRow w.heap.size 2 1 (.slice A' k c') k ((l.take k).map (Value.int .i64))∧Below w.heap.size w wr) (fun _ vi _=>l.length - (intOf vi).toNat)
 case atStart=>exact ⟨0,none,0,Nat.zero_le _,rfl,rfl,World.ownsRow_nil _ _ _ _,Below.refl _ _⟩
 case round=>
  obtain ⟨k,A',c',hk,rfl,rfl,hown,hbel⟩:=hrel
  have HO:=ħ hown
  have HB:=ħ hbel
  by_cases hlt:k<l.length
  ·have hlt':(k:Int)<l.length:=by omega
   have hix:=fun W=>JI hp c k hlt W
   have hc:=qJ (HR.out.below hbel (fun _ h=>h)) hlt
   have Nf:=ħ (show l.take (k+1)=l.take k ++ [gd l k] by rw[List.take_add_one,List.getElem?_eq_getElem hlt,qd hlt];rfl)
   have hsz:=hbel.size
   clear hown hbel
   generalize gd l k=v at *
   go_wp2_with (at_builtin;refine ze _ rfl _ _ _ rfl w.heap.size 2 _ 1 8 Tryz.underlying46 Yd rfl (by omega) (.slice A' k c') k ((l.take k).map (Value.int .i64)) rfl (HO.out.alloc _) _ (some ⟨wr.heap.size,0,none⟩) 1 1 [ι v] rfl (Reads.newS wr [ι v] 2 (0,0) 1 1 rfl _ rfl) (by simp[Value.oneCell']) (by simp only[maxLen];omega) (by omega) (by simp;omega) ?_;intro A2 c2 w2 hown hgr hat)
   refine ⟨⟨k+1,A2,c2,by omega,by go_num,rfl,?_,?_⟩,by simp[intOf];omega⟩
   ·rw[Nf.out,List.map_append];exact hown
   ·exact Below.grown (HB.out.alloc hsz _) hgr (by simp;omega) (fun j hj=>(HO.out.lt j hj).1)
  ·have hlt':¬ (k:Int)<l.length:=by omega
   have he:k=l.length:=by omega
   subst he
   rw[List.take_length] at hown
   clear HO
   go_wp2_with fail
   go_ret
   exact ⟨A',c',rfl,hown,HB.out⟩
def zL (ws:List Nat):Array Value:=(ws.map (fun n:Nat=>Value.int .u64 (n:Int))).toArray
def WB (w:World)(g:Nat)(ws:List Nat):Prop:=zb w g 209 (zL ws)
theorem WB.at_ {w:World}{g:Nat}{ws:List Nat}(h:WB w g ws){i:Nat}(hi:i<ws.length):w.cell? ⟨g,i,none⟩=some (.int .u64 (gw ws i:Nat)):=by
 rw[zb.cell h]
 unfold zL gw
 rw[List.getD_eq_getElem?_getD,List.getElem?_eq_getElem hi]
 simp[hi]
theorem rT (g:Nat)(ws:List Nat)(w:World)(h:WB w g ws)(hl:ws.length=64):Calls Tryz.prog 194 #[.agg #[.pointer (some ⟨g,0,none⟩)]] w (fun e w'=>∃ n:Int,0≤n∧n≤8128∧e=.returned (ι n)∧Below w.heap.size w w'):=by
 have H1:=ħ (show WB (w.alloc (.cells #[.pointer (some ⟨g,0,none⟩)] 191)) g ws from zb.alloc h _)
 have HB:=ħ ((Below.refl w.heap.size w).alloc (Nat.le_refl _) (.cells #[.pointer (some ⟨g,0,none⟩)] 191))
 have HX:=ħ (zb.new w 191 #[.pointer (some ⟨g,0,none⟩)])
 have HO:=ħ (fun x W=>ay x W)
 clear h
 go_enter Tryz.func194,Tryz.ntmps194
 have x0:=HX.out.facts
 go_wp2_with fail
 generalize w.alloc (.cells #[.pointer (some ⟨g,0,none⟩)] 191)=W at *
 clear x0
 go_loopw [3,11] (fun vn vi wr=>∃ (k:Nat) (n:Int),k≤64∧vi=ι k∧vn=ι n∧0≤n∧n≤127 * k∧wr=W) (fun _ vi _=>64 - (intOf vi).toNat)
 case atStart=>exact ⟨0,0,Nat.zero_le _,rfl,rfl,by omega,by omega,rfl⟩
 case round=>
  obtain ⟨k,n,hk,rfl,rfl,h0,h1,rfl⟩:=hrel
  by_cases hlt:k<64
  ·have hlt':(k:Int)<64:=by omega
   have hc:=H1.out.at_ (i:=k) (by omega)
   generalize gw ws k=v at *
   go_wp2_with (go_at_call 202;((with_reducible refine (HO.out _ _).mono ?_);rintro e w3 ⟨q,hq0,hq1,rfl,rfl⟩;have hw:IntKind.i64.wrap (n+q)=n+q:=(IntWalk.i64_in _ (by omega))))
   exact ⟨⟨k+1,n+q,by omega,by go_num,rfl,by omega,by omega,(by first | rfl | trivial)⟩,by simp[intOf];omega⟩
  ·have hlt':¬ (k:Int)<64:=by omega
   go_wp2_with fail
   go_ret
   exact ⟨n,h0,by omega,rfl,HB.out⟩
theorem nV (g:Nat)(ws:List Nat)(n:Nat)(hn:n<4096)(w:World)(h:WB w g ws)(hl:ws.length=64)(hv:∀ i,gw ws i<2 ^ 64):Calls Tryz.prog 191 #[.pointer (some ⟨g,0,none⟩),ι (n:Int)] w (fun e w'=>e=.returned (.tuple #[])∧WB w' g (Yu ws n)∧Fr (fun k=>k=g) w w'):=by
 have H1:=ħ h
 have hc:=h.at_ (i:=n / 64) (by omega)
 have hf:=zb.frozen h
 have hgl:=h.lt
 have e1:Int.tdiv (n:Int) 64=((n / 64:Nat):Int):=by rw[Int.tdiv_eq_ediv_of_nonneg (by omega)];omega
 have e2:Int.tmod (n:Int) 64=((n % 64:Nat):Int):=by rw[Int.tmod_eq_emod_of_nonneg (by omega)];omega
 have hlt:n / 64<64:=by omega
 have hor:bits .or .u64 ((gw ws (n / 64):Nat):Int) ((2:Int) ^ (n % 64))=((gw ws (n / 64) ||| 2 ^ (n % 64):Nat):Int):=by
  have h1:gw ws (n / 64)<18446744073709551616:=hv _
  have h2:2 ^ (n % 64)<18446744073709551616:=Nat.pow_lt_pow_right (n:=64) (by omega) (by omega)
  have:=bits_or_u64_nat _ _ h1 h2
  rw[←this];simp
 have hw1:IntKind.i64.wrap ((n / 64:Nat):Int)=((n / 64:Nat):Int):=IntWalk.i64_in _ (by omega)
 have hw2:IntKind.u64.wrap ((2:Int) ^ (n % 64))=(2:Int) ^ (n % 64):=by
  have h2:2 ^ (n % 64)<18446744073709551616:=Nat.pow_lt_pow_right (n:=64) (by omega) (by omega)
  have e:((2:Int) ^ (n % 64))=((2 ^ (n % 64):Nat):Int):=by simp
  rw[e,wrap_u64,Nat.mod_eq_of_lt h2]
 have hlt1:((n / 64:Nat):Int)<64:=by omega
 have HS:=ħ (fun (u:Value)=>zb.set_ (w:=w.drew) H1.out (n / 64) u)
 have HF:=ħ (fun (u:Value)=>((Fr.refl (fun k=>k=g) w).drew).setCell (p:=⟨g,n / 64,none⟩) (.inl rfl) u)
 have HA:=ħ (show Yu ws n=ws.set (n / 64) (gw ws (n / 64) ||| 2 ^ (n % 64)) from rfl)
 generalize hq:n / 64=q at *
 generalize hr:n % 64=r at *
 generalize gw ws q=v at *
 clear h
 go_enter Tryz.func191,Tryz.ntmps191
 go_region_law (fail)
 all_goals
  go_end0
  refine ⟨rfl,?_,HF.out _⟩
  have:=HS.out (.int .u64 ((v ||| 2 ^ r:Nat):Int))
  unfold WB
  rw[HA.out]
  have e:zL (ws.set q (v ||| 2 ^ r))=(zL ws).setIfInBounds q (.int .u64 ((v ||| 2 ^ r:Nat):Int)):=by
   unfold zL;rw[List.map_set];simp
  rw[e]
  exact this
def yT (ws:List Nat):List Value:=ws.map (fun n:Nat=>Value.int .u64 (n:Int))
theorem bY:(Tryz.prog.info? 209).map (fun i=>(i.size,i.bytes))=some (64,512):=by kernel_rfl
theorem Db {ws:List Nat}(hl:ws.length=64):(Tryz.prog.info? 209).map (·.size)=some (yT ws).length:=by
 have h:=bY
 unfold yT
 rw[List.length_map,hl]
 cases hq:Tryz.prog.info? 209 with
 | none=>rw[hq] at h;cases h
 | some i=>rw[hq] at h;simp at h;simp[h.1]
theorem WB.range {w:World}{g:Nat}{ws:List Nat}(h:WB w g ws):w.rangeAt g 0 (yT ws):=fun j v hv=>by
 rw[Nat.zero_add,zb.cell h]
 unfold zL
 unfold yT at hv
 simpa using hv
theorem zU:(Tryz.prog.info? 209).map (fun i=>(i.zero,i.size,i.bytes))=some (some (.agg (List.replicate 64 (Value.int .u64 0)).toArray),64,512):=by kernel_rfl
theorem F9 (ws:List Nat):∀ u∈(yT ws).toArray.toList,u.oneCell'=true:=by
 intro u hu
 unfold yT at hu
 simp at hu
 obtain ⟨x,-,rfl⟩:=hu
 rfl
theorem qO (g:Nat)(ws:List Nat)(w:World)(h:WB w g ws)(hl:ws.length=64):Calls Tryz.prog 193 #[.agg #[.pointer (some ⟨g,0,none⟩)]] w (fun e w'=>e=.returned (.agg (zL ws))∧Below w.heap.size w w'):=by
 have HR:=ħ (fun (W:World) (hb:Below w.heap.size w W)=>WB.range (show WB W g ws from zb.below h hb h.lt))
 have hr:=fun (o:Obj) (o':Obj)=>HR.out ((w.alloc o).alloc o') (((Below.refl _ w).alloc (Nat.le_refl _) _).alloc (by simp) _)
 have hsz:=Db hl
 have HX:=ħ (zb.new w 191 #[.pointer (some ⟨g,0,none⟩)])
 have iM:=fun (o:Obj) (cs:Array Value)=>(show zb ((w.alloc o).alloc (.cells cs 209)) (w.heap.size+1) 209 cs from by have:=zb.new (w.alloc o) 209 cs;simpa using this)
 have h1:=F9 ws
 have hwl:(yT ws).toArray.size=64:=by unfold yT;simp[hl]
 have HB:=ħ (fun (o o':Obj)=>(((Below.refl w.heap.size w).alloc (Nat.le_refl _) o).alloc (by simp) o'))
 clear h
 go_enter Tryz.func193,Tryz.ntmps193
 have x0:=HX.out.facts
 go_wp2_with (first | (refine wpList_load_mid rfl 209 _ rfl g 0 rfl (yT ws) _ (hr _ _) Tryz.underlying209 rfl hsz ?_) | (refine z8 rfl (.tmp 2) (.tmp 10) 209 rfl (w.heap.size+1) 209 _ (yT ws).toArray _ 64 512 zU rfl rfl hwl.symm (iM _ _) (by rw[hwl];rfl) h1 ?_;intro w5 hb5 uC hs5))
 have hsz':(Tryz.prog.info? 209).map (·.size)=some (zL ws).size:=by rw[hsz];simp[zL,yT]
 refine bodyPost_ret (results_cell_row (p:=2) (ty:=209) Tryz.results193 _ w5 (w.heap.size+1) 209 (zL ws) (0,0) _ rfl hb5 Tryz.underlying209 rfl hsz') rfl ⟨rfl,?_⟩
 exact (HB.out _ _).trans (uC.below (by simp;omega) (fun k hk e=>by omega))
theorem bK:(Tryz.prog.info? 68).map (fun i=>(i.zero,i.size,i.bytes))=some (some (.int .u64 0),1,8):=by kernel_rfl
theorem KO:Tryz.prog.cellsOf 68=1:=by kernel_rfl
theorem Yb (ws:List Nat)(hl:ws.length=64)(zs:List Value)(hzs:∀ i,i<64→zs[i]?=some (.int .u64 0))(W:World):∀ is:List Nat,(∀ i∈is,i<64)→(Op.eqItems 9999 68 (Tryz.prog.cellsOf 68) (yT ws).toArray zs.toArray is).run Tryz.prog W=.ok (is.all fun i=>gw ws i == 0) W
 | [],_=>by simp[Op.eqItems]
 | j :: is,h=>by
  have hj:=h j (by simp)
  have ih:=Yb ws hl zs hzs W is (fun i hi=>h i (by simp[hi]))
  have p1:(part 68 (yT ws).toArray (j * Tryz.prog.cellsOf 68)).run Tryz.prog W=.ok (.int .u64 (gw ws j:Nat)) W:=by
   have hg:(yT ws)[j]?=some (.int .u64 (gw ws j:Nat)):=by
    unfold yT gw
    rw[List.getElem?_map,List.getD_eq_getElem?_getD,List.getElem?_eq_getElem (by omega)]
    rfl
   rw[KO,Nat.mul_one]
   simp[part,Tryz.isAgg68,hg]
  have p2:(part 68 zs.toArray (j * Tryz.prog.cellsOf 68)).run Tryz.prog W=.ok (.int .u64 0) W:=by
   have hg:=hzs j hj
   rw[KO,Nat.mul_one]
   simp[part,Tryz.isAgg68,hg]
  simp only[Op.eqItems,Sem.run_bind,p1,p2,Result.andThen_ok,run_equalIn_int _ _ _ _ _ _ _ Tryz.underlying68]
  by_cases hz:gw ws j=0
  ·simp[hz,ih]
  ·have:((gw ws j:Int) == 0)=false:=by simpa using hz
   simp[hz]
theorem Ez (ws:List Nat)(hl:ws.length=64)(zs:List Value)(hzs:∀ i,i<64→zs[i]?=some (.int .u64 0))(W:World):(Op.equalIn 10000 209 (.agg (yT ws).toArray) (.agg zs.toArray)).run Tryz.prog W=.ok ((List.range 64).all fun i=>gw ws i == 0) W:=by
 obtain ⟨i,hi,-⟩:=info_parts bK
 rw[run_equalIn_array W 9999 _ _ Tryz.underlying209 hi]
 exact Yb ws hl zs hzs W _ (fun i hi=>List.mem_range.1 hi)
def ZB (ws:List Nat):Bool:=(List.range 64).all fun i=>gw ws i == 0
theorem uN (g:Nat)(ws:List Nat)(w:World)(h:WB w g ws)(hl:ws.length=64) :
 Calls Tryz.prog 192 #[.pointer (some ⟨g,0,none⟩)] w (fun e w'=>e=.returned (.agg #[.pointer (if ZB ws=true then none else some ⟨g,0,none⟩)])∧Below w.heap.size w w'):=by
 have HR:=ħ (fun (W:World) (hb:Below w.heap.size w W)=>WB.range (show WB W g ws from zb.below h hb h.lt))
 have hr:=fun (o:Obj)=>HR.out (w.alloc o) ((Below.refl _ w).alloc (Nat.le_refl _) _)
 have hsz:=Db hl
 have heq:=fun W=>Ez ws hl (List.replicate 64 (Value.int .u64 0)) (fun i hi=>by rw[List.getElem?_replicate,if_pos hi]) W
 simp only[List.replicate_succ,List.replicate_zero] at heq
 have Pp:Tryz.prog.eqGuardType Tryz.prog.depth 209=false:=by kernel_rfl
 have HB:=ħ (fun (u:Value)=>(((Fr.refl (fun _=>False) w).alloc (.cells #[.pointer none] 191)).setCell (p:=⟨w.heap.size,0,none⟩) (.inr (Nat.le_refl _)) u).below (B:=w.heap.size) (Nat.le_refl _) (fun _ _=>id))
 have HB0:=ħ ((Below.refl w.heap.size w).alloc (Nat.le_refl _))
 change ∀ W,Sem.run _ _ _=.ok (ZB ws) W at heq
 clear h
 cases hq:ZB ws with
 | false=>
  rw[hq] at heq
  go_enter Tryz.func192,Tryz.ntmps192
  go_wp2_with (refine wpList_load_mid rfl 209 _ rfl g 0 rfl (yT ws) _ (hr _) Tryz.underlying209 rfl hsz ?_)
  refine bodyPost_ret (v:=.agg #[.pointer (some ⟨g,0,none⟩)]) (by simp[results,Tryz.results192,go_sem]) rfl ⟨by simp,?_⟩
  first | exact HB.out _ | exact HB0.out _
 | true=>
  rw[hq] at heq
  go_enter Tryz.func192,Tryz.ntmps192
  go_wp2_with (refine wpList_load_mid rfl 209 _ rfl g 0 rfl (yT ws) _ (hr _) Tryz.underlying209 rfl hsz ?_)
  refine bodyPost_ret (v:=.agg #[.pointer none]) (by simp[results,Tryz.results192,go_sem]) rfl ⟨by simp,?_⟩
  first | exact HB.out _ | exact HB0.out _
end Go.Proofs.YtdhcjhfgibmhfaaGreatDoor
namespace Go.Inc
def zA (l:List Int):List Nat:=(l.filter (fun n=>decide (0≤n) && decide (n<4096))).map Int.toNat
theorem U_ (l:List Int)(n:Int):zA (l ++ [n])=if 0≤n∧n<4096 then zA l ++ [n.toNat] else zA l:=by
 unfold zA
 rw[List.filter_append,List.map_append]
 by_cases h:0≤n∧n<4096
 ·rw[if_pos h];simp[h.1,h.2]
 ·rw[if_neg h]
  have:(decide (0≤n) && decide (n<4096))=false:=by simp;omega
  simp[this]
theorem El (l:List Nat)(n:Nat):Qi (l ++ [n])=Yu (Qi l) n:=by unfold Qi;rw[List.foldl_append];rfl
theorem zV {l:List Int}:∀ n∈zA l,n<4096:=fun n hn=>by
 unfold zA at hn
 obtain ⟨x,hx,rfl⟩:=List.mem_map.1 hn
 have:=(List.mem_filter.1 hx).2
 simp at this
 omega
theorem YV {l:List Nat}(h:∀ n∈l,n<4096):∀ i,gw (Qi l) i<2 ^ 64:=by
 have:∀ (l:List Nat) (ws:List Nat),ws.length=64→(∀ n∈l,n<4096)→(∀ i,gw ws i<2 ^ 64)→∀ i,gw (l.foldl Yu ws) i<2 ^ 64:=by
  intro l
  induction l with
  | nil=>intro ws _ _ h i;exact h i
  | cons a r ih=>
   intro ws hw hl h i
   refine ih (Yu ws a) (by rw[xe,hw]) (fun n hn=>hl n (by simp[hn])) (fun i=>?_) i
   have ha:=hl a (by simp)
   unfold Yu
   rw[AO _ _ _ _ (by rw[hw];omega)]
   split
   ·exact Nat.or_lt_two_pow (h _) (Nat.pow_lt_pow_right (by omega) (by omega))
   ·exact h i
 refine this l _ (by simp) h (fun i=>?_)
 unfold gw
 rw[List.getD_eq_getElem?_getD,List.getElem?_replicate]
 split <;> simp
end Go.Inc
