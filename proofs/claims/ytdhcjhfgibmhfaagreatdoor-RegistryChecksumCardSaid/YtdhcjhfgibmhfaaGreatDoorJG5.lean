import Derived.RangeFuncBox
import Derived.RangeFuncNested
import Derived.RangeFuncBound
import Derived.RangeFuncCalls
import Derived.RangeFuncLeaves
import Derived.Shelf.Abstract
import Derived.Shelf.RegionOpen
import Derived.WalkKit
import Derived.OwnWalkIn
import Derived.TacticsInMore
import Derived.LoopNIn
import Derived.LoopIn
import Derived.BigRegionIn
import Derived.Maps.AppendAt
import Derived.Test.YtdhcjhfgibmhfaaGreatDoorJNod8
import Derived.Test.YtdhcjhfgibmhfaaGreatDoorJG2
import Derived.Test.YtdhcjhfgibmhfaaGreatDoorJG3
import Derived.Deep.RegionHeld
import Derived.Deep.RegionLaw
set_option linter.unusedVariables false
set_option linter.unusedSimpArgs false
set_option maxRecDepth 100000
set_option maxHeartbeats 8000000
namespace Go.Proofs.YtdhcjhfgibmhfaaGreatDoor
open Go.RowKit Go.Own Go.Quo Go.Inc Go.Shelf
attribute [local go_sem] Oper.semAt_some
def tailW (ws:List Nat)(i:Nat):List Int:=(List.range' i (64 - i)).flatMap (fun i=>(bitsOf (gw ws i)).map (fun j=>((i * 64+j:Nat):Int)))
theorem Yq (ws:List Nat){i:Nat}(hi:i<64):tailW ws i=(bitsOf (gw ws i)).map (fun j=>((i * 64+j:Nat):Int)) ++ tailW ws (i+1):=by
 unfold tailW
 rw[show 64 - i=(64 - (i+1))+1 by omega,List.range'_succ,List.flatMap_cons]
theorem Jg (ws:List Nat):tailW ws 64=[]:=by unfold tailW;simp
theorem Uh {ws:List Nat}(hl:ws.length=64):tailW ws 0=(Yh ws).map (fun n:Nat=>(n:Int)):=by
 unfold tailW Yh
 rw[hl,List.range_eq_range',List.map_flatMap]
 simp only[List.map_map]
 rfl
theorem Gn (k m:Nat)(h64:2 ^ (k+1) * m+2 ^ k<2 ^ 64)(x:Nat)(hx:x=2 ^ (k+1) * m+2 ^ k):bits .and .u64 (x:Int) (IntKind.u64.wrap ((x:Int) - 1))=((2 ^ (k+1) * m:Nat):Int):=by
 have hp:0<2 ^ k:=Nat.two_pow_pos k
 have hx0:0<x:=by rw[hx];omega
 have hlt:x<18446744073709551616:=by rw[hx];exact h64
 have e:((x:Int) - 1)=((x - 1:Nat):Int):=by omega
 rw[e,wrap_u64,Nat.mod_eq_of_lt (by omega),bits_and_u64_nat _ _ hlt (by omega)]
 congr 1
 rw[hx]
 exact FX
theorem bG (n:Nat)(hn:1≤n)(l Bn n₀ g:Nat)(ws:List Nat)(hl:ws.length=64)(hv:∀ i,gw ws i<2 ^ 64)(hg:g<n₀)(Na:0<n₀)(B0:Nat)(J Jx:List Int→World→Prop)(LX:AbidesFrom B0 J)
 (hY:∀ pre x W,J pre W→pre.length<(tailW ws 0).length→YieldAt Fence.wide (n - 1) Tryz.prog l #[ι x] W fun e W'=>
  (e=.returned (.bool true)∧J (pre ++ [x]) W'∧Below n₀ W W')∨(e=.returned (.bool false)∧Jx (pre ++ [x]) W'))
 (W:World) (iM:W.cell? ⟨Bn,0,none⟩=some (.pointer (some ⟨g,0,none⟩))) (hz:WB W g ws) (ht:jg W) (h0:J [] W) :
 CallsIn Fence.wide n Tryz.prog 203 #[.func (.yield l) #[] #[],.pointer (some ⟨Bn,0,none⟩)] W fun e W'=>(∃ v,e=.returned v) ∧
  ((∃ ys,ys=tailW ws 0∧J ys W')∨(∃ pre,pre <+: tailW ws 0∧Jx pre W')):=by
 have HZ:=ħ hz
 have HT:=ħ ht
 have HV:=ħ hv
 have HL:=ħ hl
 have HY:=ħ hY
 have HJ:=ħ h0
 have Nt:=ħ LX
 clear hz ht hv hl hY h0 LX
 refine callsIn_of_wp Tryz.func203 rfl trivial ?_ rfl
 simp only[Tryz.ntmps203,List.size_toArray,List.length_cons,List.length_nil,Nat.reduceAdd,Nat.reduceSub,Array.replicate_succ,Array.replicate_zero,List.push_toArray,List.append_toArray,List.nil_append,List.cons_append]
 gi_wp2
 gi_loopw [10] (fun vi wr=>∃ (k:Nat) (pre:List Int),k≤64∧vi=ι k∧tailW ws 0=pre ++ tailW ws k∧J pre wr∧WB wr g ws∧jg wr)
  (fun vi _=>64 - (intOf vi).toNat)
 case atStart=>exact ⟨0,[],Nat.zero_le _,rfl,rfl,HJ.out,HZ.out,HT.out⟩
 case round=>
  obtain ⟨k,pre,hk,rfl,hx,hJ,hz,ht⟩:=hrel
  have GJ:=ħ hJ
  have GZ:=ħ hz
  have GT:=ħ ht
  have GX:=ħ hx
  clear hJ hz ht hx
  by_cases hlt:k<64
  ·have hlt':(k:Int)<64:=by omega
   have hc:=GZ.out.at_ (i:=k) (by rw[HL.out];exact hlt)
   have GV:=ħ (HV.out k)
   have GS:=ħ (Yq ws hlt)
   generalize gw ws k=v0 at *
   gi_wp2
   gi_region
   have HJ2:=ħ (show J pre wr.drew from Nt.out pre wr wr.drew none GJ.out ⟨rfl,rfl,rfl,Nat.le_refl _,fun _ _ _=>rfl⟩ (fun r e=>by cases e))
   have HZ2:=ħ (show WB wr.drew g ws from GZ.out)
   have HT2:=ħ (show jg wr.drew from GT.out)
   generalize wr.drew=w2 at *
   clear hc GJ GZ GT
   gi_wp2
   gi_loopw [4] (fun vv wi=>∃ (v:Nat) (pre:List Int),vv=.int .u64 v∧v<2 ^ 64∧tailW ws 0=pre ++ ((bitsOf v).map (fun j=>((k * 64+j:Nat):Int)) ++ tailW ws (k+1))∧J pre wi∧WB wi g ws∧jg wi) (fun vv _=>(intOf vv).toNat)
   case atStart=>exact ⟨v0,pre,rfl,GV.out,by rw[GX.out,GS.out],HJ2.out,HZ2.out,HT2.out⟩
   case round=>
    obtain ⟨v,dL,rfl,hv1,hx1,hj1,hz1,ht1⟩:=hrel
    have Lv:=ħ hj1
    have HZ1:=ħ hz1
    have HT1:=ħ ht1
    have KI:=ħ hx1
    clear hj1 hz1 ht1 hx1 HJ2 HZ2 HT2 GX GS GV
    by_cases h0:v=0
    ·subst h0
     gi_wp2
     exact ⟨⟨k+1,dL,by omega,by go_num,by rw[KI.out,Jv];rfl,Lv.out,HZ1.out,HT1.out⟩,by simp[intOf];omega⟩
    ·have d0:((v:Int) == 0)=false:=by simpa using h0
     obtain ⟨c,m,hcm⟩:=G7 h0
     have HCM:=ħ hcm
     have pX:=ħ hv1
     have L6:c<64:=by
      rcases Nat.lt_or_ge c 64 with h1 | h1
      ·exact h1
      ·have:=Nat.pow_le_pow_right (n:=2) (by omega) h1;omega
     have Kk:=ħ (fun W (h:jg W)=>Bl c m (by rw[←hcm];exact hv1) v hcm L6 W h)
     have OU:=Gn c m (by rw[←hcm];exact hv1) v hcm
     have hb:=Gx (k:=c) (m:=m) (by rw[←hcm];exact hv1)
     have hbz:bitsOf v=c :: bitsOf (2 ^ (c+1) * m):=by rw[hcm];exact hb
     have Zo:=ħ (show tailW ws 0=dL ++ ((k:Int) * 64+(c:Int)) :: ((bitsOf (2 ^ (c+1) * m)).map (fun j=>((k * 64+j:Nat):Int)) ++ tailW ws (k+1)) by
      rw[KI.out,hbz,List.map_cons,List.cons_append];congr 2)
     have hpl:dL.length<(tailW ws 0).length:=by rw[Zo.out];simp
     have hw1:IntKind.i64.wrap ((k:Int) * 64)=(k:Int) * 64:=IntWalk.i64_in _ (by omega)
     have hw2:IntKind.i64.wrap ((k:Int) * 64+(c:Int))=(k:Int) * 64+(c:Int):=IntWalk.i64_in _ (by omega)
     obtain ⟨fn,tmps,assign,body,hy,hR⟩:=HY.out dL ((k:Int) * 64+(c:Int)) wr Lv.out hpl
     have iW:=ħ (show 2 ^ (c+1) * m<v by rw[hcm];have:=Nat.two_pow_pos c;omega)
     clear hcm hb hbz h0 hv1 KI hpl
     generalize 2 ^ (c+1) * m=v2 at *
     gi_wp2_with (refine ⟨trivial,?_⟩;gi_at_call 204;refine (callsIn_wide.2 (Kk.out _ HT1.out)).mono ?_;rintro e w' ⟨rfl,rfl⟩)
     refine hR.mono ?_
     rintro e W3 (⟨rfl,hJ3,hk3⟩ | ⟨rfl,hJx3⟩)
     ·have NB:=ħ hJ3
      have HZ3:=ħ (show WB W3 g ws from zb.below HZ1.out hk3 hg)
      have HT3:=ħ (show jg W3 from jg.below HT1.out hk3 Na)
      clear hJ3 hk3 hy hR
      gi_wp2
      go_roundw
      case rel=>exact ⟨v2,_,rfl,by have:=pX.out;have:=iW.out;omega,by rw[Zo.out];simp,NB.out,HZ3.out,HT3.out⟩
      case measure=>have:=iW.out;simp[intOf];omega
     ·clear hy hR
      gi_wp2
      refine bodyPost_ret (results_none rfl _ _ _) rfl ?_
      exact ⟨⟨_,rfl⟩,.inr ⟨_,⟨_,by rw[Zo.out,List.append_assoc];rfl⟩,hJx3⟩⟩
  ·have hlt':¬ (k:Int)<64:=by omega
   obtain rfl:k=64:=by omega
   gi_wp2
   go_end0
   exact ⟨⟨_,rfl⟩,.inl (by rw[GX.out,Jg,List.append_nil];exact GJ.out)⟩
theorem A_ (n:Nat)(l Bn:Nat)(J Jx:List Int→World→Prop)(W:World)(iM:W.cell? ⟨Bn,0,none⟩=some (.pointer none))(h0:J [] W) :
 CallsIn Fence.wide n Tryz.prog 203 #[.func (.yield l) #[] #[],.pointer (some ⟨Bn,0,none⟩)] W fun e W'=>(∃ v,e=.returned v) ∧
  ((∃ ys,ys=[]∧J ys W')∨(∃ pre,pre <+: []∧Jx pre W')):=by
 have HJ:=ħ h0
 clear h0
 refine callsIn_of_wp Tryz.func203 rfl trivial ?_ rfl
 simp only[Tryz.ntmps203,List.size_toArray,List.length_cons,List.length_nil,Nat.reduceAdd,Nat.reduceSub,Array.replicate_succ,Array.replicate_zero,List.push_toArray,List.append_toArray,List.nil_append,List.cons_append]
 gi_wp2
 refine bodyPost_ret (results_none rfl _ _ _) rfl ?_
 exact ⟨⟨_,rfl⟩,.inl ⟨_,rfl,HJ.out⟩⟩
theorem lL (n:Nat)(p:Option Addr)(w:World) :
 CallsIn Fence.wide n Tryz.prog 195 #[.agg #[.pointer p]] w fun e w'=>e=.returned (.func (.func 203) #[] #[.pointer (some ⟨w.heap.size,0,none⟩)])∧w'=w.alloc (.cells #[.pointer p] 191):=by
 refine callsIn_of_wp Tryz.func195 rfl trivial ?_ rfl
 simp only[Tryz.ntmps195,List.size_toArray,List.length_cons,List.length_nil,Nat.reduceAdd,Nat.reduceSub,Array.replicate_succ,Array.replicate_zero,List.push_toArray,List.append_toArray,List.nil_append,List.cons_append]
 gi_wp2
 go_ret
 exact ⟨rfl,rfl⟩
attribute [local go_sem] Oper.semAt_some
theorem iE (w:World):Calls Tryz.prog 194 #[.agg #[.pointer none]] w (fun e w'=>∃ n:Int,0≤n∧n≤8128∧e=.returned (ι n)∧Below w.heap.size w w'):=by
 have HB:=ħ ((Below.refl w.heap.size w).alloc (Nat.le_refl _) (.cells #[.pointer none] 191))
 go_enter Tryz.func194,Tryz.ntmps194
 go_wp2_with fail
 go_ret
 exact ⟨0,by omega,by omega,rfl,HB.out⟩
theorem uP:(Tryz.prog.info? 3).map (fun i=>(i.zero,i.size,i.bytes))=some (some (ι 0),1,8):=by kernel_rfl
theorem Ul (p:Option Addr)(xs:List Int)(hlen:xs.length≤100000)(w:World)
 (lI:RowKit.Hid (Calls Tryz.prog 194 #[.agg #[.pointer p]] (w.alloc (.cells #[.pointer p] 191)) (fun e w'=>∃ n:Int,0≤n∧n≤8128∧e=.returned (ι n)∧Below (w.alloc (.cells #[.pointer p] 191)).heap.size (w.alloc (.cells #[.pointer p] 191)) w')))
 (Oy:RowKit.Hid (∀ (W:World) (Bn:Nat),Below w.heap.size w W→Bn<W.heap.size→W.cell? ⟨Bn,0,none⟩=some (.pointer p)→SeqStopsK Fence.wide 2 Tryz.prog 203 #[.pointer (some ⟨Bn,0,none⟩)] (fun x:Int=>#[ι x]) (Below w.heap.size) (fun ys=>ys=xs) (fun pre=>pre <+: xs) xs.length W)) :
 CallsIn Fence.wide 3 Tryz.prog 171 #[.agg #[.pointer p]] w (fun e w'=>∃ v,e=.returned v∧w'.ownsRow w.heap.size 3 1 v xs.length (xs.map (Value.int .i64))∧Below w.heap.size w w'):=by
 obtain ⟨i0,hi,hz0,hz1,hz2⟩:=info_parts uP
 have HX:=ħ (zb.new w 191 #[.pointer p])
 have HB0:=ħ ((Below.refl w.heap.size w).alloc (Nat.le_refl _) (.cells #[.pointer p] 191))
 refine callsIn_of_wp_marks Tryz.func171 rfl trivial ?_ rfl
 simp only[Tryz.ntmps171,List.size_toArray,List.length_cons,List.length_nil,Nat.reduceAdd,Nat.reduceSub,Array.replicate_succ,Array.replicate_zero,List.push_toArray,List.append_toArray,List.nil_append,List.cons_append]
 gi_wp2_with (first | (refine ⟨trivial,?_⟩;gi_at_call 195;refine (lL 2 _ _).mono ?_;rintro e w4 ⟨rfl,rfl⟩) | (refine ⟨trivial,?_⟩;gi_at_call 194;refine (callsIn_wide.2 lI.out).mono ?_;rintro e w2 ⟨n,hn0,hn1,rfl,hb2⟩;obtain ⟨c,rfl⟩:∃ c:Nat,n=c:=⟨n.toNat,by omega⟩;have Zo:=ħ (HX.out.below hb2 HX.out.lt);have y0:=Zo.out.facts;have HB2:=ħ (HB0.out.trans (hb2.mono (by simp)));clear hb2;have hmk:=F_ (P:=Tryz.prog) 32 3 (ι 0) 8 Tryz.underlying32 uP rfl c (by omega) (by omega)))
 have bO:=Boxed.new (w2.alloc (.cells (Fu (ι 0) c) 3)) 32 (.slice (some ⟨w2.heap.size,0,none⟩) 0 c)
 rw[World.size_alloc] at bO
 have bN:=Boxed.new ((w2.alloc (.cells (Fu (ι 0) c) 3)).alloc (.cells #[.slice (some ⟨w2.heap.size,0,none⟩) 0 c] 32)) 191 (.pointer p)
 rw[World.size_alloc,World.size_alloc] at bN
 have hsz:=HB2.out.size
 have hB1:Below w.heap.size w (((w2.alloc (.cells (Fu (ι 0) c) 3)).alloc (.cells #[.slice (some ⟨w2.heap.size,0,none⟩) 0 c] 32)).alloc (.cells #[.pointer p] 191)):=((HB2.out.alloc hsz _).alloc (by simp;omega) _).alloc (by simp;omega) _
 have hrow:=World.ownsRow_made (base:=w.heap.size) (e:=3) (size:=1) w2 (Fu (ι 0) c) c hsz (by simp only[maxLen];omega) (by simp[Fu])
 have jB:=ħ ((hrow.alloc (.cells #[.slice (some ⟨w2.heap.size,0,none⟩) 0 c] 32)).alloc (.cells #[.pointer p] 191))
 have P7:=ħ bN
 have LG:=ħ (bO.alloc (.cells #[.pointer p] 191))
 have HB1:=ħ hB1
 have MQ:=Oy.out _ (w2.heap.size+2) hB1 (by simp) bN.cell
 clear hrow bN bO hB1
 refine wpIn_rangeFunc_ownG rfl (by omega) (gf:=203) (lb:=#[.pointer (some ⟨w2.heap.size+2,0,none⟩)]) rfl trivial (enters_of Tryz.func203 (by kernel_rfl) rfl)
  MQ belowK_t (belowK_b (by simp;omega)) (Below.refl _ _) (fun _=>rfl)
  (fun pre W=>(∃ v,Boxed W (w2.heap.size+1) 32 v∧W.ownsRow w.heap.size 3 1 v pre.length (pre.map (Value.int .i64))∧True)∧Below w.heap.size w W)
  (fun _ _ _=>False)
  (OwnFrom.and (Own.from (holdsRow_own w.heap.size (w2.heap.size+1) 32 3 1 (fun pre:List Int=>pre.length) (fun pre=>pre.map (Value.int .i64)) (fun _ _=>True)) _) (ownFrom_below (Nat.le_refl _) (by simp;omega)))
  (fun _ _ _ _ _ hs _ _=>hs)
  ⟨⟨_,LG.out,jB.out,trivial⟩,HB1.out⟩
  (fun x=>{ tmps:=#[.agg #[.pointer p],.pointer (some ⟨w.heap.size,0,none⟩),.slice none 0 0,.pointer (some ⟨w2.heap.size+1,0,none⟩),ι x,.agg #[.pointer p],ι (c:Int),.slice (some ⟨w2.heap.size,0,none⟩) 0 c,.agg #[.pointer p],.func (.func 203) #[] #[.pointer (some ⟨w2.heap.size+2,0,none⟩)],ι x,undef,undef,undef,undef,undef],defers:=[] }) ?assign ?body ?done ?stop
 case assign=>
  intro l x W K hK
  gi_wp2
  exact hK
 case body=>
  rintro l pre x W ⟨⟨v,hv,hrow,-⟩,hB⟩ hlt
  have hc:=hv.cell
  have hle:w.heap.size≤w2.heap.size+1:=by omega
  have I7:=HB1
  clear I7 jB LG P7 HB1 MQ
  gi_wp2_with (gi_at_builtin;refine wpListIn_append_own _ rfl _ _ 32 rfl w.heap.size 3 i0 (ι 0) 1 8 Tryz.underlying32 hi hz0 hz1 hz2 rfl (by decide) _ _ _ rfl (hrow.alloc _) ⟨W.heap.size,0,none⟩ 1 1 [ι x] rfl rfl (cell_one_new _ _ _) (by simp[Value.oneCell']) (by simp only[maxLen];omega) (by omega) (by have:=hB.size;simp;omega) ?_;intro v' w1 hown' hgrow _;obtain ⟨g',cap',rfl⟩:=ownsRow_succ hown';obtain ⟨hv1,hv2,hr2,hk2,hb2⟩:=hv.appended (by decide) hrow hB.size hle hown' hgrow;have hc1:=hv1.cell;have hf1:=hv1.frozen)
  exact ⟨hk2.from _,hb2,⟨_,hv2,by simpa using hr2,trivial⟩,hB.trans hb2⟩
 case done=>
  rintro D ys W hD rfl ⟨⟨v,hv,hrow,-⟩,hB⟩ hK
  have hc:=hv.cell
  gi_wp2
  refine ⟨by simp,.inl ⟨_,_,rfl,run_takeDeferred hK,?_⟩⟩
  exact ⟨_,results_tmp rfl _ _ _,v,rfl,ownsRow_putObj hrow _ hK rfl,hB.trans (belowK_b (w:=w) (Nat.le_refl _) W D _ _ (by simp at hD;omega) hK rfl rfl)⟩
 case stop=>
  rintro D c pre W _ _ h _
  exact h.elim
theorem uE (l:List Nat)(p:Nat→Bool):(l.filter p).length≤l.length:=List.length_filter_le _ _
theorem V_ (ws:List Nat):∀ k,k≤64→(tailW ws (64 - k)).length≤64 * k
 | 0,_=>by rw[Nat.sub_zero,Jg];simp
 | k+1,h=>by
  rw[Yq ws (by omega),show 64 - (k+1)+1=64 - k by omega,List.length_append,List.length_map]
  have h1:=V_ ws k (by omega)
  have h2:(bitsOf (gw ws (64 - (k+1)))).length≤64:=by
   unfold bitsOf
   have:=uE (List.range 64) (fun j=>(gw ws (64 - (k+1))).testBit j)
   rw[List.length_range] at this
   exact this
  omega
theorem Yl {ws:List Nat}(h:ZB ws=true):∀ k,k≤64→tailW ws (64 - k)=[]
 | 0,_=>Jg ws
 | k+1,hk=>by
  rw[Yq ws (by omega),show 64 - (k+1)+1=64 - k by omega,Yl h k (by omega)]
  unfold ZB at h
  rw[List.all_eq_true] at h
  have:=h (64 - (k+1)) (List.mem_range.2 (by omega))
  have h0:gw ws (64 - (k+1))=0:=by simpa using this
  rw[h0,Jv];rfl
theorem Dg {xs:List Int}{w w':World}{v:Value}(h:w'.ownsRow w.heap.size 3 1 v xs.length (xs.map (Value.int .i64)))(hb:Below w.heap.size w w'):qL xs 3 w (.returned v) w':=by
 have h0:=h
 rcases h.2 with ⟨rfl,hx⟩ | ⟨g,cap,cur,rfl,_⟩
 ·have hl:=h.1
  have hx0:xs=[]:=by simpa using hx
  subst hx0
  exact ⟨none,0,rfl,h0,hb⟩
 ·exact ⟨_,_,rfl,h0,hb⟩
theorem iH (g:Nat)(ws:List Nat)(w:World)(hz:WB w g ws)(ht:jg w)(hl:ws.length=64)(hv:∀ i,gw ws i<2 ^ 64) :
 Calls Tryz.prog 171 #[.agg #[.pointer (if ZB ws=true then none else some ⟨g,0,none⟩)]] w (qL (tailW ws 0) 3 w):=by
 have hlen:(tailW ws 0).length≤100000:=by have:=V_ ws 64 (Nat.le_refl _);simp at this;omega
 cases hq:ZB ws with
 | true=>
  have h0:tailW ws 0=[]:=by have:=Yl hq 64 (Nat.le_refl _);simpa using this
  rw[h0]
  refine (callsIn_wide.1 (Ul none [] (by simp) w (ħ (iE _)) (ħ (fun W Bn hW iM hc=>?_)))).mono ?_
  ·intro l J Jx W' hW' hJ hJx hY hj
   exact A_ 2 l Bn J Jx W' ((hW'.cell (p:=⟨Bn,0,none⟩) iM).trans hc) hj
  ·rintro e w' ⟨v,rfl,h1,h2⟩
   exact Dg (xs:=[]) h1 h2
 | false=>
  refine (callsIn_wide.1 (Ul (some ⟨g,0,none⟩) (tailW ws 0) hlen w (ħ (rT g ws _ (zb.alloc hz _) hl)) (ħ (fun W Bn hW iM hc=>?_)))).mono ?_
  ·intro l J Jx W' hW' hJ hJx hY hj
   have hb:Below w.heap.size w W':=hW.trans (hW'.mono hW.size)
   exact bG 2 (by omega) l Bn w.heap.size g ws hl hv (zb.lt hz) (Nat.lt_of_le_of_lt (Nat.zero_le _) (zb.lt hz)) W'.heap.size J Jx hJ hY W' ((hW'.cell (p:=⟨Bn,0,none⟩) iM).trans hc) (zb.below hz hb (zb.lt hz)) (jg.below ht hb (jg.lt ht)) hj
  ·rintro e w' ⟨v,rfl,h1,h2⟩
   exact Dg h1 h2
end Go.Proofs.YtdhcjhfgibmhfaaGreatDoor
namespace Go.Proofs.YtdhcjhfgibmhfaaGreatDoor
open Go.RowKit Go.Own Go.Quo Go.Inc
theorem vQ {ws:List Nat}(hl:ws.length=64)(h:ZB ws=true):Yh ws=[]:=by
 have h1:=Yl h 64 (Nat.le_refl _)
 have h2:=Uh hl
 rw[Nat.sub_self] at h1
 rw[h1] at h2
 exact List.map_eq_nil_iff.1 h2.symm
theorem dC {l:List Int}(h:qf l 0 4095=true)(h0:0<l.length):ZB (Qi (zA l))=false:=by
 cases hz:ZB (Qi (zA l)) with
 | false=>rfl
 | true=>
  have h1:=vQ (j5 zV) hz
  have h2:=kW h h0
  have hm:(gd l 0).toNat∈zA l:=by
   rw[JH h,qd h0,Int.toNat_of_nonneg (by rw[qd h0] at h2;exact h2.1)]
   exact List.getElem_mem h0
  have h3:(gd l 0).toNat∈Yh (Qi (zA l)):=by
   rw[Ua,j5 zV,UY zV]
   have:=zV _ hm
   exact ⟨by omega,by simpa using hm⟩
  rw[h1] at h3;simp at h3
def z1a (ws:List Nat)(w:World)(e:Ending)(w':World):Prop:=∃ g,e=.returned (.agg #[.pointer (some ⟨g,0,none⟩)])∧WB w' g ws∧Below w.heap.size w w'
theorem fA (B:Nat→Prop)(A:Option Addr)(c:Nat)(l:List Int)(w:World)(h:RI w B A l)(hl:l.length≤100000)(hv:qf l 0 4095=true)(h0:0<l.length):Calls Tryz.prog 169 #[.slice A l.length c] w (z1a (Qi (zA l)) w):=
 (IL B A c l w h hl).mono (fun e w' ⟨g,h1,h2,h3,h4⟩=>⟨g,by rw[h2,dC hv h0];rfl,h3,h4⟩)
def au (p:Nat)(b:Nat)(v7 v8 v9:Value)(id dist:Int)(x:Ic)(old:Value)(w:World)(e:Ending)(w':World):Prop:=∃ An cn Ac cc,e=.returned (.tuple #[]) ∧
 zb w' p 48 #[.int .i64 id,.int .i64 x.urg,.string x.code,.slice An x.nodes.length cn,.int .i64 dist,.int .i64 x.since,.slice Ac x.calls.length cc,v7,v8,v9] ∧
 w'.ownsRow b 3 1 (.slice An x.nodes.length cn) x.nodes.length (x.nodes.map (Value.int .i64))∧w'.ownsRow b 2 1 (.slice Ac x.calls.length cc) x.calls.length (x.calls.map (Value.int .i64)) ∧
 Fr (fun k=>k=p∨old.ownBlock=some k) w w'
theorem Es {a b:List Nat}(h:a.length=b.length)(ha:∀ i,gw a i<2 ^ 64):∀ i,gw (Zq a b) i<2 ^ 64:=fun i=>by
 rw[vO h];exact Nat.lt_of_le_of_lt Nat.and_le_left (ha i)
theorem Gs (B:Nat→Prop)(p b:Nat)(id urg dist since:Int)(code:ByteArray)(nodes calls:List Int)(An Ac:Option Addr)(cn cc:Nat)(v7 v8 v9:Value)
 (call inc jJ ZC ql:Int) (jo:ByteArray) (zZ:List Int) (A:Option Addr) (c:Nat) (yX:Bool) (merged:Int) (units:List Int) (closed:Bool) (w:World)
 (ht:jg w) (hp:zb w p 48 #[.int .i64 id,.int .i64 urg,.string code,.slice An nodes.length cn,.int .i64 dist,.int .i64 since,.slice Ac calls.length cc,v7,v8,v9]) (hn:w.ownsRow b 3 1 (.slice An nodes.length cn) nodes.length (nodes.map (Value.int .i64))) (hc:w.ownsRow b 2 1 (.slice Ac calls.length cc) calls.length (calls.map (Value.int .i64)))
 (h:RI w B A zZ) (hB:∀ k,B k→k≠p) (hp0:p≠0) (hb:b≤w.heap.size) (hv1:qf nodes 0 4095=true) (hv2:qf zZ 0 4095=true) (hn0:0<nodes.length) (hc0:0<zZ.length)
 (hl1:nodes.length≤100000) (hl2:zZ.length≤100000) (hl3:calls.length≤100000) :
 Calls Tryz.prog 151 #[.pointer (some ⟨p,0,none⟩),.agg #[.int .i64 call,.int .i64 inc,.int .i64 jJ,.string jo,.slice A zZ.length c,.int .i64 ZC,.int .i64 ql,.bool yX]] w (au p b v7 v8 v9 id dist (qV ⟨id,urg,code,nodes,dist,since,calls,units,merged,closed⟩ ⟨call,inc,jJ,jo,zZ,ZC,ql,yX⟩) (.slice Ac calls.length cc) w):=by
 have hpl:=hp.lt
 rw[show qV ⟨id,urg,code,nodes,dist,since,calls,units,merged,closed⟩ ⟨call,inc,jJ,jo,zZ,ZC,ql,yX⟩=⟨id,if jJ<urg then jJ else urg,if jJ<urg then jo else code,if 0<(zT nodes zZ).length then zT nodes zZ else nodes,dist,min since ql,calls ++ [call],units,merged,closed⟩ from rfl]
 have hpn:p≠w.heap.size:=by omega
 have HP:=ħ (hp.alloc (.cells #[.int .i64 call,.int .i64 inc,.int .i64 jJ,.string jo,.slice A zZ.length c,.int .i64 ZC,.int .i64 ql,.bool yX] 34))
 have HX:=ħ (zb.new w 34 #[.int .i64 call,.int .i64 inc,.int .i64 jJ,.string jo,.slice A zZ.length c,.int .i64 ZC,.int .i64 ql,.bool yX])
 have HN:=ħ (hn.alloc (.cells #[.int .i64 call,.int .i64 inc,.int .i64 jJ,.string jo,.slice A zZ.length c,.int .i64 ZC,.int .i64 ql,.bool yX] 34))
 have HC:=ħ (hc.alloc (.cells #[.int .i64 call,.int .i64 inc,.int .i64 jJ,.string jo,.slice A zZ.length c,.int .i64 ZC,.int .i64 ql,.bool yX] 34))
 have HR:=ħ (((h.old (by omega)).more (B':=fun k=>k≠p∧k<w.heap.size) (fun k hk=>⟨hB k hk.1,hk.2⟩)).alloc (.cells #[.int .i64 call,.int .i64 inc,.int .i64 jJ,.string jo,.slice A zZ.length c,.int .i64 ZC,.int .i64 ql,.bool yX] 34))
 have HF:=ħ ((Fr.refl (fun k=>k=p) w).alloc (.cells #[.int .i64 call,.int .i64 inc,.int .i64 jJ,.string jo,.slice A zZ.length c,.int .i64 ZC,.int .i64 ql,.bool yX] 34))
 have HT:=ħ (show jg (w.alloc (.cells #[.int .i64 call,.int .i64 inc,.int .i64 jJ,.string jo,.slice A zZ.length c,.int .i64 ZC,.int .i64 ql,.bool yX] 34)) from jg.alloc ht _)
 have Nk:=ħ hp0
 have OJ:=ħ (zR hn hp (by decide))
 have NP:=ħ (zR hc hp (by decide))
 have PK:=ħ (jf hn hc (by decide))
 have tZ:=ħ (show w.heap.size<(w.alloc (.cells #[.int .i64 call,.int .i64 inc,.int .i64 jJ,.string jo,.slice A zZ.length c,.int .i64 ZC,.int .i64 ql,.bool yX] 34)).heap.size by simp)
 clear ht hp hn hc h hp0
 go_enter Tryz.func151,Tryz.ntmps151
 go_upto_region 1 with (fail)
 generalize w.alloc _=W at *
 have x0:=HP.out.facts
 have y0:=HX.out.facts
 go_cut [11] (fun v wx=>v=.bool (decide (jJ<urg))∧wx=W.drew)
 case first=>
  go_region_law (fail)
  all_goals
   go_wp2_with fail
   go_meet
   case rel=>exact ⟨rfl,rfl⟩
 case rest=>
  obtain ⟨rfl,rfl⟩:=hcut
  go_upto_if 11 with (fail)
  go_cut [] (fun wx=>zb wx p 48 #[.int .i64 id,.int .i64 (if jJ<urg then jJ else urg),.string (if jJ<urg then jo else code),.slice An nodes.length cn,.int .i64 dist,.int .i64 since,.slice Ac calls.length cc,v7,v8,v9]∧zb wx w.heap.size 34 #[.int .i64 call,.int .i64 inc,.int .i64 jJ,.string jo,.slice A zZ.length c,.int .i64 ZC,.int .i64 ql,.bool yX]∧Fr (fun k=>k=p) W wx)
  case first=>
   by_cases hu:jJ<urg
   ·rw[decide_eq_true hu]
    have HU:=ħ hu
    have H1:=ħ (show zb ((W.setCell ⟨p,1,none⟩ (.int .i64 jJ)).setCell ⟨p,2,none⟩ (.string jo)) p 48 #[.int .i64 id,.int .i64 jJ,.string jo,.slice An nodes.length cn,.int .i64 dist,.int .i64 since,.slice Ac calls.length cc,v7,v8,v9] by have:=(HP.out.set_ 1 (.int .i64 jJ)).set_ 2 (.string jo);simpa using this)
    have H2:=ħ ((HX.out.far (p:=⟨p,1,none⟩) (by simp;omega) (.int .i64 jJ)).far (p:=⟨p,2,none⟩) (by simp;omega) (.string jo))
    have H3:=ħ (((Fr.refl (fun k=>k=p) W).setCell (p:=⟨p,1,none⟩) (.inl rfl) (.int .i64 jJ)).setCell (p:=⟨p,2,none⟩) (.inl rfl) (.string jo))
    clear hu
    go_wp2_with fail
    go_meet
    case rel=>exact ⟨by rw[if_pos HU.out,if_pos HU.out];exact H1.out,H2.out,H3.out.drew⟩
   ·rw[decide_eq_false hu]
    have HU:=ħ hu
    clear hu
    go_wp2_with fail
    go_meet
    case rel=>exact ⟨by rw[if_neg (by have:=HU.out;omega),if_neg (by have:=HU.out;omega)];exact HP.out,HX.out,(Fr.refl _ _).drew⟩
  case rest=>
   obtain ⟨hp1,hx1,hf1⟩:=hcut
   generalize huu:(if jJ<urg then jJ else urg)=uu at *
   generalize hss:(if jJ<urg then jo else code)=ss at *
   clear huu hss
   have gP:=ħ hp1
   have KI:=ħ hx1
   have tO:=ħ hf1
   have HT1:=ħ (show jg wc from jg.fr HT.out hf1 (fun e=>Nk.out e.symm))
   have qa:=ħ (zY HN.out hf1 OJ.out)
   have aS:=ħ (zY HC.out hf1 NP.out)
   have HR1:=ħ (HR.out.fr hf1 (fun k hk e=>hk.1 e))
   have Np:=ħ (show b≤wc.heap.size from Nat.le_trans hb (Nat.le_trans (Nat.le_of_lt tZ.out) hf1.size))
   clear hp1 hx1 hf1 HP HX HN HC HR HT x0 y0
   have zu:=ħ fun (W':World) (hb:Below wc.heap.size wc W')=>fA _ An cn nodes W' (Ke (own_below qa.out hb (fun g hg=>(qa.out.lt g hg).2))) hl1 hv1 hn0
   have zk:=ħ fun (W':World) (hb:Below wc.heap.size wc W')=>fA _ A c zZ W' ((HR1.out.old (by omega)).below hb (fun k hk=>hk.2)) hl2 hv2 hc0
   have HI:=ħ fun (g1 g2:Nat) (W':World) (h1:WB W' g1 (Qi (zA nodes))) (h2:WB W' g2 (Qi (zA zZ)))=>dO g1 g2 _ _ W' h1 h2 (j5 zV) (j5 zV) (YV zV) (YV zV)
   have hal:=ZP (j5 (zV (l:=nodes))) (j5 (zV (l:=zZ)))
   have hcm:tailW (Zq (Qi (zA nodes)) (Qi (zA zZ))) 0=zT nodes zZ:=by rw[Uh hal,←vG hv1 hv2];rfl
   have HL:=ħ fun (g:Nat) (W':World) (h:WB W' g (Zq (Qi (zA nodes)) (Qi (zA zZ)))) (hb:Below wc.heap.size wc W')=>hcm ▸ iH g _ W' h (jg.below HT1.out hb HT1.out.lt) hal (Es (by rw[j5 zV,j5 zV]) (YV zV))
   clear hal hcm
   generalize Qi (zA nodes)=jR at *
   generalize Qi (zA zZ)=ji at *
   have HK:=ħ fun (W':World) (hb:Below wc.heap.size wc W')=>(show W'.cell? ⟨p,3,none⟩=some (.slice An nodes.length cn)∧W'.cell? ⟨w.heap.size,4,none⟩=some (.slice A zZ.length c) from ⟨by rw[zb.cell (gP.out.below hb gP.out.lt)];rfl,by rw[zb.cell (KI.out.below hb KI.out.lt)];rfl⟩)
   have K0:=HK.out _ (Below.refl _ wc).drew
   have Ps:=ħ (Jj nodes zZ)
   go_upto_region 4 with (fail)
   go_cut [4] (fun v wx=>∃ A' c',v=.slice A' (zT nodes zZ).length c'∧wx.ownsRow b 3 1 (.slice A' (zT nodes zZ).length c') (zT nodes zZ).length ((zT nodes zZ).map (Value.int .i64))∧Below wc.heap.size wc wx)
   case first=>
    go_region_held (fun w'=>w'.cell? ⟨p,3,none⟩=some (.slice An nodes.length cn)∧w'.cell? ⟨w.heap.size,4,none⟩=some (.slice A zZ.length c)) (first | assumption | exact K0) (first
     | (go_at_call 169;((with_reducible refine (zu.out _ ((Below.refl _ _).drew)).mono ?_);rintro e w2 ⟨g1,rfl,hz1,hb2⟩;have B2:=((Below.refl wc.heap.size wc).drew).trans hb2;clear hb2;have PL:=HK.out _ B2))
     | (go_at_call 169;((with_reducible refine (zk.out _ B2).mono ?_);rintro e w3 ⟨g2,rfl,hz2,hb3⟩;have B3:=B2.trans (hb3.mono B2.size);have hz3:=(show WB w3 g1 jR from zb.below hz1 hb3 (zb.lt hz1));clear hb3 hz1;have Pk:=HK.out _ B3))
     | (go_at_call 170;((with_reducible refine (HI.out _ _ _ hz3 hz2).mono ?_);rintro e w4 ⟨g3,hg3,rfl,Mc,hb4⟩;have B4:=B3.trans (hb4.mono B3.size);clear hb4 hz3 hz2;have Pq:=HK.out _ B4;have eH:=ħ (HL.out g3 w4 Mc B4);clear Mc;generalize (if ZB (Zq jR ji)=true then none else some (⟨g3,0,none⟩:Addr))=pp at *))
     | (go_at_call 171;((with_reducible refine eH.out.mono ?_);rintro e w5 ⟨A5,c5,rfl,M4,hb5⟩;have B5:=B4.trans (hb5.mono B4.size);have Oj:=World.ownsRow.mono M4 (Nat.le_trans Np.out B4.size);clear hb5 M4;have Pf:=HK.out _ B5)))
    all_goals
     go_wp2_with fail
     go_meet
     case rel=>exact ⟨_,_,rfl,Oj,B5⟩
   case rest=>
    obtain ⟨A5,c5,rfl,LC,hb5⟩:=hcut
    have L8:=ħ LC
    have BF:=ħ (gP.out.below hb5 gP.out.lt)
    have Zo:=ħ (KI.out.below hb5 KI.out.lt)
    have y5:=ħ (own_below qa.out hb5 (fun g hg=>(qa.out.lt g hg).2))
    have XE:=ħ (own_below aS.out hb5 (fun g hg=>(aS.out.lt g hg).2))
    have Dh:=ħ (tO.out.trans (Fr.of_below hb5 (S:=fun k=>k=p)))
    clear LC hb5 gP KI qa aS tO HK K0 zu zk HI HL HT1 HR1
    generalize zT nodes zZ=L at *
    go_upto_if 34 with (fail)
    go_cut [] (fun wx=>∃ A6 c6,zb wx p 48 #[.int .i64 id,.int .i64 uu,.string ss,.slice A6 (if 0<L.length then L else nodes).length c6,.int .i64 dist,.int .i64 since,.slice Ac calls.length cc,v7,v8,v9]∧wx.ownsRow b 3 1 (.slice A6 (if 0<L.length then L else nodes).length c6) (if 0<L.length then L else nodes).length ((if 0<L.length then L else nodes).map (Value.int .i64))∧zb wx w.heap.size 34 #[.int .i64 call,.int .i64 inc,.int .i64 jJ,.string jo,.slice A zZ.length c,.int .i64 ZC,.int .i64 ql,.bool yX]∧wx.ownsRow b 2 1 (.slice Ac calls.length cc) calls.length (calls.map (Value.int .i64))∧Fr (fun k=>k=p) W wx)
    case first=>
     have CK:=BF.out.lt
     have x0:=BF.out.facts
     by_cases h0:0<L.length
     ·have h0':(0:Int)<L.length:=by omega
      have wM:=ħ (zR L8.out BF.out (by decide))
      have Lj:=ħ (zR XE.out BF.out (by decide))
      have E1:=ħ (show zb (wc.setCell ⟨p,3,none⟩ (.slice A5 L.length c5)) p 48 #[.int .i64 id,.int .i64 uu,.string ss,.slice A5 L.length c5,.int .i64 dist,.int .i64 since,.slice Ac calls.length cc,v7,v8,v9] by have:=BF.out.set_ 3 (.slice A5 L.length c5);simpa using this)
      have E2:=ħ (Zo.out.far (p:=⟨p,3,none⟩) (by simp;omega) (.slice A5 L.length c5))
      have E0:=ħ ((Fr.refl (fun k=>k=p) wc).setCell (p:=⟨p,3,none⟩) (.inl rfl) (.slice A5 L.length c5))
      have E3:=ħ (zY L8.out E0.out wM.out)
      have E4:=ħ (zY XE.out E0.out Lj.out)
      have E5:=ħ (Dh.out.trans E0.out)
      go_wp2_with fail
      go_meet
      case rel=>exact ⟨A5,c5,by rw[if_pos (by omega)];exact E1.out,by rw[if_pos (by omega)];exact E3.out,E2.out,E4.out,E5.out⟩
     ·have h0':¬ (0:Int)<L.length:=by omega
      go_wp2_with fail
      go_meet
      case rel=>exact ⟨An,cn,by rw[if_neg (by omega)];exact BF.out,by rw[if_neg (by omega)];exact y5.out,Zo.out,XE.out,Dh.out⟩
    case rest=>
     obtain ⟨A6,c6,g1,g2,g3,g4,g5⟩:=hcut
     generalize (if 0<L.length then L else nodes)=NN at *
     have G1:=ħ g1
     have G2:=ħ g2
     have G3:=ħ g3
     have G4:=ħ g4
     have G5:=ħ g5
     clear g1 g2 g3 g4 g5 BF Zo y5 XE Dh L8
     have oH:=G1.out.lt
     have x0:=G1.out.facts
     have y0:=G3.out.facts
     go_upto_region 7 with (fail)
     go_cut [] (fun wx=>wx=(wc.setCell ⟨p,5,none⟩ (.int .i64 (min since ql))).drew)
     case first=>
      go_region_law (fail)
      all_goals
       go_wp2_with fail
      all_goals
       go_meet
       case rel=>first | with_reducible rfl | (rw[show min since ql=ql by omega];done) | (rw[show min since ql=since by omega];done)
     case rest=>
      subst hcut
      have kT:=ħ (show zb (wc.setCell ⟨p,5,none⟩ (.int .i64 (min since ql))).drew p 48 #[.int .i64 id,.int .i64 uu,.string ss,.slice A6 NN.length c6,.int .i64 dist,.int .i64 (min since ql),.slice Ac calls.length cc,v7,v8,v9] by have:=G1.out.set_ 5 (.int .i64 (min since ql));exact (by simpa using this:zb (wc.setCell ⟨p,5,none⟩ (.int .i64 (min since ql))) p 48 #[.int .i64 id,.int .i64 uu,.string ss,.slice A6 NN.length c6,.int .i64 dist,.int .i64 (min since ql),.slice Ac calls.length cc,v7,v8,v9]))
      have ZI:=ħ (show zb (wc.setCell ⟨p,5,none⟩ (.int .i64 (min since ql))).drew w.heap.size 34 #[.int .i64 call,.int .i64 inc,.int .i64 jJ,.string jo,.slice A zZ.length c,.int .i64 ZC,.int .i64 ql,.bool yX] from G3.out.far (p:=⟨p,5,none⟩) (by simp;omega) (.int .i64 (min since ql)))
      have E0:=ħ (show Fr (fun k=>k=p) wc (wc.setCell ⟨p,5,none⟩ (.int .i64 (min since ql))).drew from ((Fr.refl (fun k=>k=p) wc).setCell (p:=⟨p,5,none⟩) (.inl rfl) (.int .i64 (min since ql))).drew)
      have yx:=ħ (zY G2.out E0.out (zR G2.out G1.out (by decide)))
      have Dm:=ħ (zY G4.out E0.out (zR G4.out G1.out (by decide)))
      have ZR:=ħ (HF.out.trans (G5.out.trans E0.out))
      have wF:=ħ (show b≤(wc.setCell ⟨p,5,none⟩ (.int .i64 (min since ql))).drew.heap.size from Nat.le_trans hb ZR.out.size)
      clear G1 G2 G3 G4 G5 E0 oH x0 y0
      generalize (wc.setCell _ _).drew=W6 at *
      have oH:=kT.out.lt
      have x0:=kT.out.facts
      have y0:=ZI.out.facts
      have hb6:=wF.out
      have CR:=zR Dm.out kT.out (by decide)
      go_wp2_with fail
      go_region_law (first
       | (refine yf _ (by rfl) (.tmp 53) (.tmp 56) _ (by rfl) b 2 (.int .i64 0) 1 8 Tryz.underlying46 Yd rfl (by omega) (.slice Ac calls.length cc) calls.length (calls.map (Value.int .i64)) (by rfl) (Dm.out.alloc _).drew (fun k=>k=W6.heap.size) (some ⟨W6.heap.size,0,none⟩) 1 1 [.int .i64 call] (by rfl) (Reads.newS W6 [.int .i64 call] 2 (0,0) 1 1 rfl _ rfl).drew (by simp[Value.oneCell']) (by simp only[maxLen];omega) (by omega) (by simp;omega) ?_
          intro A7 c7 w7 fH f_ O0
          have KR:=ħ ((kT.out.alloc (.cells #[.int .i64 call] 2)).drew.grown f_ (by intro e;exact CR p e.symm rfl))
          have z0:=KR.out.facts))
      all_goals
       go_wp2_with fail
       go_end0
       have hne:=jf yx.out Dm.out (by decide)
       have Mi:=World.ownsRow.kept ((yx.out.alloc (.cells #[.int .i64 call] 2)).drew) f_ (by
        cases hq:(Value.slice A6 NN.length c6).ownBlock with
        | none=>exact .inl rfl
        | some g=>exact .inr (hne g hq))
       have hfp:=(Fr.refl (fun k=>k=p) w7).setCell (p:=⟨p,6,none⟩) (.inl rfl) (.slice A7 (calls.length+1) c7)
       have Nv:zb (w7.setCell ⟨p,6,none⟩ (.slice A7 (calls.length+1) c7)) p 48 #[.int .i64 id,.int .i64 uu,.string ss,.slice A6 NN.length c6,.int .i64 dist,.int .i64 (min since ql),.slice A7 (calls.length+1) c7,v7,v8,v9]:=by
        have:=KR.out.set_ 6 (.slice A7 (calls.length+1) c7)
        simpa using this
       have NU:=zY Mi hfp (zR Mi KR.out (by decide))
       have Ob:=zY fH hfp (zR fH KR.out (by decide))
       have P6:=((((ZR.out.mono (T:=fun k=>k=p∨(Value.slice Ac calls.length cc).ownBlock=some k) (fun k _ e=>.inl e)).alloc (.cells #[.int .i64 call] 2)).drew).grown f_ (fun k e=>.inl (.inr e))).setCell (p:=⟨p,6,none⟩) (.inl (.inl rfl)) (.slice A7 (calls.length+1) c7)
       exact ⟨A6,c6,A7,c7,rfl,by simpa using Nv,NU,by simpa using Ob,P6⟩
end Go.Proofs.YtdhcjhfgibmhfaaGreatDoor
