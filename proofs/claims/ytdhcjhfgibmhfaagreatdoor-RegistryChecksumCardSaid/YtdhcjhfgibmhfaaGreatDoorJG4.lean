import Derived.Test.YtdhcjhfgibmhfaaGreatDoorJG1
import Derived.Test.YtdhcjhfgibmhfaaGreatDoorJG3
import Derived.Sort.Grow
import Derived.Deep.RegionHeldLaw
import Derived.Deep.DeepCutAuto
import Derived.Test.YtdhcjhfgibmhfaaGreatDoorJG2
import Derived.Shelf.GgSortFunc.RowK
import Derived.Sort.OwnSortedInts
import Derived.OrdersHeld
import Derived.RegionTactic
import Derived.NoCompiler
set_option linter.unusedVariables false
set_option linter.unusedSimpArgs false
set_option maxRecDepth 10000
set_option maxHeartbeats 4000000
namespace Go.Proofs.YtdhcjhfgibmhfaaGreatDoor
open Go.RowKit Go.Own Go.Quo Go.Inc
def vW (x y:Int):Int:=if x<y then -1 else if y<x then 1 else 0
def jD:List Int→Int
 | []=>0
 | x :: r=>if x=0 then jD r else x
theorem nP (x:Int)(w:World):Calls Tryz.prog 168 #[ι x] w (fun e w'=>e=.returned (.bool false)∧w'=w):=by
 go_enter Tryz.func168,Tryz.ntmps168
 go_wp2_with fail
 go_ret
 exact ⟨by simp,rfl⟩
theorem nE (x y:Int)(w:World):Calls Tryz.prog 149 #[ι x,ι y] w (fun e w'=>e=.returned (ι (vW x y))∧w'=w):=by
 have HN:=ħ fun z W=>nP z W
 unfold vW
 by_cases h1:x<y
 ·rw[if_pos h1]
  have d1:decide (x<y)=true:=by simpa using h1
  clear h1
  go_enter Tryz.func149,Tryz.ntmps149
  go_wp2_with (go_at_call 168;((with_reducible refine (HN.out _ _).mono ?_);rintro e w3 ⟨rfl,rfl⟩))
  go_ret
  exact ⟨rfl,rfl⟩
 ·rw[if_neg h1]
  have d1:decide (x<y)=false:=by simpa using h1
  by_cases h2:y<x
  ·rw[if_pos h2]
   have d2:decide (y<x)=true:=by simpa using h2
   clear h1 h2
   go_enter Tryz.func149,Tryz.ntmps149
   go_wp2_with (go_at_call 168;((with_reducible refine (HN.out _ _).mono ?_);rintro e w3 ⟨rfl,rfl⟩))
   go_ret
   exact ⟨rfl,rfl⟩
  ·rw[if_neg h2]
   have d2:decide (y<x)=false:=by simpa using h2
   clear h1 h2
   go_enter Tryz.func149,Tryz.ntmps149
   go_wp2_with (go_at_call 168;((with_reducible refine (HN.out _ _).mono ?_);rintro e w3 ⟨rfl,rfl⟩))
   go_ret
   exact ⟨rfl,rfl⟩
theorem Qb:∀ (l:List Int)(k:Nat),(∀ i x,i<k→l[i]?=some x→x=0)→jD l=jD (l.drop k)
 | [],k,_=>by simp[jD]
 | a :: r,0,_=>rfl
 | a :: r,k+1,h=>by
  have h0:=h 0 a (by omega) rfl
  rw[List.drop_succ_cons,←Qb r k (fun i x hi hx=>h (i+1) x (by omega) (by simpa using hx))]
  rw[jD,if_pos h0]
theorem wX (B:Nat→Prop)(A:Option Addr)(c:Nat)(l:List Int)(w:World)(h:Reads w B 1 A l.length (l.map (Value.int .i64)))(hl:l.length≤1000) :
 Calls Tryz.prog 148 #[.slice A l.length c] w (fun e w'=>e=.returned (ι (jD l))∧w'=w):=by
 have hp:=h.plain (by omega)
 have H1:=ħ h
 clear h
 go_enter Tryz.func148,Tryz.ntmps148
 go_wp2_with fail
 go_loopw [8] (fun vi wr=>∃ (k:Nat),k≤l.length∧vi=ι k∧(∀ i x,i<k→l[i]?=some x→x=0)∧wr=w) (fun vi _=>l.length - (intOf vi).toNat)
 case atStart=>exact ⟨0,Nat.zero_le _,rfl,fun i x hi=>by omega,rfl⟩
 case round=>
  obtain ⟨k,hk,rfl,hz,rfl⟩:=hrel
  have HZ:=ħ hz
  clear hz
  by_cases hlt:k<l.length
  ·have hlt':(k:Int)<l.length:=by omega
   obtain ⟨x,hx⟩:∃ x,l[k]?=some x:=⟨_,List.getElem?_eq_getElem hlt⟩
   have hix:=fun W=>JI hp c k hlt W
   have hc1:wr.cell? ⟨bk A,qP A+k,none⟩=some (ι x):=by
    have:=H1.out.cell2 k (by omega) (by omega);rw[this];simp[hx]
   by_cases h0:x=0
   ·subst h0
    have HF:=ħ (show ∀ i x,i<k+1→l[i]?=some x→x=0 from fun i y hi hy=>by
     rcases (by omega:i<k∨i=k) with e | rfl
     ·exact HZ.out i y e hy
     ·rw[hx] at hy;injection hy with hy;exact hy.symm)
    clear hx
    go_wp2_with fail
    exact ⟨⟨k+1,by omega,by go_num,HF.out,(by first | rfl | trivial)⟩,by simp[intOf];omega⟩
   ·have HF:=ħ (show jD l=x by
     rw[Qb l k HZ.out,List.drop_eq_getElem_cons hlt,jD]
     have:l[k]=x:=by rw[List.getElem?_eq_getElem hlt] at hx;injection hx
     rw[this,if_neg h0])
    have d0:(x == 0)=false:=by simpa using h0
    clear hx h0
    go_wp2_with fail
    go_ret
    exact ⟨by rw[HF.out];rfl,rfl⟩
  ·have hlt':¬ (k:Int)<l.length:=by omega
   have HF:=ħ (show jD l=0 by
    rw[Qb l k HZ.out,List.drop_of_length_le (by omega),jD])
   go_wp2_with fail
   go_ret
   exact ⟨by rw[HF.out];rfl,rfl⟩
end Go.Proofs.YtdhcjhfgibmhfaaGreatDoor
namespace Go.Proofs.YtdhcjhfgibmhfaaGreatDoor
open Go.RowKit Go.Own Go.Quo Go.Inc Go.Sort
theorem XF {W':World}(o:Obj){a:Addr}{v:Value}(hv:W'.cell? a=some v):(W'.alloc o).cell? a=some v:=(World.cell?_alloc_lt _ o _ (World.block_lt_of_cell? _ _ hv)).trans hv
def iK (x y:Ca):Int:=jD [vW x.c.since y.c.since,vW x.c.call y.c.call]
theorem gJ (x y:Ca)(W:World):Calls Tryz.prog 147 #[uy x,uy y] W (fun e w'=>e=.returned (ι (iK x y))∧∃ q os',w'=grow (W.drewN q) os'):=by
 obtain ⟨⟨xc,xi,xu,xd,xn,xt,xs,xl⟩,xA,xk⟩:=x
 obtain ⟨⟨yc,yi,yu,yd,yn,yt,ys,yl⟩,yA,yk⟩:=y
 unfold uy iK
 have Nl:=ħ fun a b W=>nE a b W
 have OM:=ħ fun (a b:Int) (W:World)=>wX (fun k=>k=W.heap.size) (some ⟨W.heap.size,0,none⟩) 2 [a,b] (W.alloc (.cells #[ι a,ι b] 3)).drew (Reads.newS W [ι a,ι b] 3 (0,0) 2 1 rfl _ rfl).drew (by simp)
 have NF:=ħ fun (W':World) (o:Obj) (h:W'.cell? ⟨W.heap.size,6,none⟩=some (ι xs)∧W'.cell? ⟨W.heap.size,0,none⟩=some (ι xc)∧W'.cell? ⟨W.heap.size+1,6,none⟩=some (ι ys)∧W'.cell? ⟨W.heap.size+1,0,none⟩=some (ι yc))=>(⟨XF o h.1,XF o h.2.1,XF o h.2.2.1,XF o h.2.2.2⟩:(W'.alloc o).cell? ⟨W.heap.size,6,none⟩=some (ι xs)∧(W'.alloc o).cell? ⟨W.heap.size,0,none⟩=some (ι xc)∧(W'.alloc o).cell? ⟨W.heap.size+1,6,none⟩=some (ι ys)∧(W'.alloc o).cell? ⟨W.heap.size+1,0,none⟩=some (ι yc))
 have HX:=ħ (zb.new W 34 #[ι xc,ι xi,ι xu,.string xd,.slice xA xn.length xk,ι xt,ι xs,.bool xl])
 have HY:=ħ (zb.new (W.alloc (.cells #[ι xc,ι xi,ι xu,.string xd,.slice xA xn.length xk,ι xt,ι xs,.bool xl] 34)) 34 #[ι yc,ι yi,ι yu,.string yd,.slice yA yn.length yk,ι yt,ι ys,.bool yl])
 have Zo:=ħ (HX.out.alloc (.cells #[ι yc,ι yi,ι yu,.string yd,.slice yA yn.length yk,ι yt,ι ys,.bool yl] 34))
 have e6:((W.alloc (.cells #[ι xc,ι xi,ι xu,.string xd,.slice xA xn.length xk,ι xt,ι xs,.bool xl] 34)).alloc (.cells #[ι yc,ι yi,ι yu,.string yd,.slice yA yn.length yk,ι yt,ι ys,.bool yl] 34)).cell? ⟨W.heap.size,6,none⟩=some (ι xs):=by rw[zb.cell Zo.out];rfl
 have e0:((W.alloc (.cells #[ι xc,ι xi,ι xu,.string xd,.slice xA xn.length xk,ι xt,ι xs,.bool xl] 34)).alloc (.cells #[ι yc,ι yi,ι yu,.string yd,.slice yA yn.length yk,ι yt,ι ys,.bool yl] 34)).cell? ⟨W.heap.size,0,none⟩=some (ι xc):=by rw[zb.cell Zo.out];rfl
 have f6:((W.alloc (.cells #[ι xc,ι xi,ι xu,.string xd,.slice xA xn.length xk,ι xt,ι xs,.bool xl] 34)).alloc (.cells #[ι yc,ι yi,ι yu,.string yd,.slice yA yn.length yk,ι yt,ι ys,.bool yl] 34)).cell? ⟨W.heap.size+1,6,none⟩=some (ι ys):=by have:=zb.cell HY.out 6;rw[show (W.alloc (.cells #[ι xc,ι xi,ι xu,.string xd,.slice xA xn.length xk,ι xt,ι xs,.bool xl] 34)).heap.size=W.heap.size+1 by simp] at this;rw[this];rfl
 have f0:((W.alloc (.cells #[ι xc,ι xi,ι xu,.string xd,.slice xA xn.length xk,ι xt,ι xs,.bool xl] 34)).alloc (.cells #[ι yc,ι yi,ι yu,.string yd,.slice yA yn.length yk,ι yt,ι ys,.bool yl] 34)).cell? ⟨W.heap.size+1,0,none⟩=some (ι yc):=by have:=zb.cell HY.out 0;rw[show (W.alloc (.cells #[ι xc,ι xi,ι xu,.string xd,.slice xA xn.length xk,ι xt,ι xs,.bool xl] 34)).heap.size=W.heap.size+1 by simp] at this;rw[this];rfl
 have mU:=ħ (show _∧_∧_∧_ from ⟨e6,e0,f6,f0⟩)
 clear e6 e0 f6 f0 HX HY Zo
 go_enter Tryz.func147,Tryz.ntmps147
 go_upto_region 1 with fail
 obtain ⟨W2,hW2⟩:∃ W2,W2=(W.alloc (.cells #[ι xc,ι xi,ι xu,.string xd,.slice xA xn.length xk,ι xt,ι xs,.bool xl] 34)).alloc (.cells #[ι yc,ι yi,ι yu,.string yd,.slice yA yn.length yk,ι yt,ι ys,.bool yl] 34):=⟨_,rfl⟩
 rw[←hW2] at mU⊢
 have M7:=ħ (show W2.drew.cell? ⟨W.heap.size,6,none⟩=some (ι xs)∧W2.drew.cell? ⟨W.heap.size,0,none⟩=some (ι xc)∧W2.drew.cell? ⟨W.heap.size+1,6,none⟩=some (ι ys)∧W2.drew.cell? ⟨W.heap.size+1,0,none⟩=some (ι yc) from mU.out)
 have HW2:=ħ hW2
 clear hW2
 go_region_held (fun w'=>w'.cell? ⟨W.heap.size,6,none⟩=some (ι xs)∧w'.cell? ⟨W.heap.size,0,none⟩=some (ι xc)∧w'.cell? ⟨W.heap.size+1,6,none⟩=some (ι ys)∧w'.cell? ⟨W.heap.size+1,0,none⟩=some (ι yc)) (first | exact M7.out | exact NF.out _ _ M7.out) (first
  | (go_at_call 149;refine (Nl.out _ _ _).mono ?_;rintro e w2 ⟨rfl,rfl⟩)
  | (go_at_call 148;refine (OM.out _ _ _).mono ?_;rintro e w2 ⟨rfl,rfl⟩))
 all_goals
  go_wp2_with fail
  go_ret
  refine ⟨by simp,1,#[.cells #[ι xc,ι xi,ι xu,.string xd,.slice xA xn.length xk,ι xt,ι xs,.bool xl] 34,.cells #[ι yc,ι yi,ι yu,.string yd,.slice yA yn.length yk,ι yt,ι ys,.bool yl] 34,.cells #[ι (vW xs ys),ι (vW xc yc)] 3],?_⟩
  rw[HW2.out]
  rfl
end Go.Proofs.YtdhcjhfgibmhfaaGreatDoor
namespace Go.Proofs.YtdhcjhfgibmhfaaGreatDoor
open Go.RowKit Go.Own Go.Quo Go.Inc Go.Sort Go.Shelf
section
variable {α:Type} [Inhabited α]
theorem vI (enc:α→List Value)(k:Nat)(hk:∀ x,(enc x).length=k)(k0:0<k)(ts:List α):(flatK enc k ts.toArray).toList=ts.flatMap enc:=by
 apply List.ext_getElem?
 intro j
 by_cases hj:j<ts.length * k
 ·have h1:j / k<ts.length:=Nat.div_lt_of_lt_mul (by rw[Nat.mul_comm];exact hj)
  have h2:j % k<k:=Nat.mod_lt _ k0
  have h3:(ts.flatMap enc)[j]?=(enc ts[j / k])[j % k]?:=by
   have:=flat_get enc k hk ts (j / k) (j % k) _ (List.getElem?_eq_getElem h1) h2
   rwa [Nat.div_add_mod' j k] at this
  rw[h3,Array.getElem?_toList]
  have hs:j<(flatK enc k ts.toArray).size:=by simp;exact hj
  rw[Array.getElem?_eq_getElem hs]
  have h4:=get_flatK enc k ts.toArray j (by simpa using hj)
  rw[getElem!_pos _ j hs] at h4
  rw[h4,getElem!_pos ts.toArray (j / k) (by simpa using h1)]
  have hs2:j % k<(enc ts[j / k]).length:=by rw[hk];exact h2
  rw[List.getElem?_eq_getElem hs2]
  simp[hs2]
 ·rw[List.getElem?_eq_none (by simp;omega),List.getElem?_eq_none (by rw[yH enc k hk];omega)]
theorem Uj (enc:α→List Value)(k:Nat)(hk:∀ x,(enc x).length=k)(k0:0<k)(ts:List α):flatK enc k ts.toArray=(ts.flatMap enc).toArray:=by
 apply Array.ext';rw[vI enc k hk k0]
end
theorem JU {w:World}{g:Nat}{cur:Array Value}{e:TypeId}{ss:List Value}(hb:w.heap[g]?=some (.cells cur e (0,0)))(ht:cur.toList.take ss.length=ss):Holds (α:=Value) id w g 0 ss.toArray:=by
 intro j hj
 have hj':j<ss.length:=by simpa using hj
 refine ⟨?_,by simp[World.frozen?,hb]⟩
 have h1:(cur.toList.take ss.length)[j]?=ss[j]?:=by rw[ht]
 rw[List.getElem?_take_of_lt hj'] at h1
 simp only[World.cell?,hb,Nat.zero_add]
 simp only[Option.isSome_none,Bool.false_eq_true,if_false]
 rw[←Array.getElem?_toList,h1]
 simp[hj']
theorem Ur {w:World}{g n:Nat}{os:Array Obj}{cur:Array Value}{e:TypeId}{fr:Nat × Nat}(d:Array Value)(hb:w.heap[g]?=some (.cells cur e fr)) :
 (grow (putRow (α:=Value) id (Sort.ahead w n) g 0 d) os).heap[g]?=some (.cells (putCells (α:=Value) id 0 d cur) e fr):=by
 have hg:g<w.heap.size:=(Array.getElem?_eq_some_iff.1 hb).1
 rw[heap_grow_old _ _ (by simpa using hg)]
 simp[putRow,mapBlock,Sort.ahead,Array.getElem?_modify,hb,onCells]
theorem JP {w:World}{g n:Nat}{os:Array Obj}(d:Array Value):w.grownBy (grow (putRow (α:=Value) id (Sort.ahead w n) g 0 d) os) (some g):=by
 refine ⟨rfl,rfl,rfl,by simp,fun k hk hne=>?_⟩
 rw[heap_grow_old _ _ (by simpa using hk)]
 have:g≠k:=fun e=>hne (by rw[e])
 simp[putRow,mapBlock,Sort.ahead,Array.getElem?_modify,this]
theorem V7 (cur:Array Value)(ts:List Value)(h:ts.length≤cur.size):(putCells (α:=Value) id 0 ts.toArray cur).toList.take ts.length=ts:=by
 apply List.ext_getElem?
 intro j
 by_cases hj:j<ts.length
 ·rw[List.getElem?_take_of_lt hj,Array.getElem?_toList]
  simp[putCells,hj,show j<cur.size by omega]
 ·rw[List.getElem?_take_eq_none (by omega),List.getElem?_eq_none (by omega)]
theorem YE (x y:Ca):ltOf iK x y=decide (Xg x.c y.c):=by
 unfold ltOf iK
 rw[Bool.eq_iff_iff]
 simp only[decide_eq_true_eq,jD,vW,Xg]
 by_cases h1:x.c.since<y.c.since
 ·simp[h1]
 ·by_cases h2:y.c.since<x.c.since
  ·have:¬ x.c.since=y.c.since:=by omega
   simp[h1,h2,this]
  ·have h3:x.c.since=y.c.since:=by omega
   by_cases h4:x.c.call<y.c.call
   ·simp[h1,h2,h3,h4]
   ·by_cases h5:y.c.call<x.c.call <;> simp[h1,h2,h3,h4,h5]
theorem bE:SWO (ltOf iK) where
 irrefl x:=by rw[YE];simp[Xg]
 trans x y z h1 h2:=by rw[YE] at *;simp only[decide_eq_true_eq] at *;unfold Xg at *;omega
 ntrans x y z h1 h2:=by rw[YE] at *;simp only[decide_eq_false_iff_not] at *;unfold Xg at *;omega
instance:Inhabited Cr:=⟨⟨0,0,0,⟨#[]⟩,[],0,0,false⟩⟩
instance:Inhabited Ca:=⟨⟨default,none,0⟩⟩
def Fw (base:Nat)(A:Option Addr)(n c:Nat)(ts:List Ca)(w:World)(e:Ending)(w':World):Prop:=
 e=.returned (.tuple #[])∧∃ ss:List Ca,ss.Perm ts∧ss.Pairwise (fun a b=>UD a.c b.c)∧w'.ownsRow base 34 8 (.slice A n c) n (ss.flatMap qC)∧w.grownBy w' (Value.slice A n c).ownBlock
theorem iB (base:Nat)(A:Option Addr)(n c:Nat)(ts:List Ca)(w:World)(hown:w.ownsRow base 34 8 (.slice A n c) n (ts.flatMap qC))(hn:ts.length=n)(h0:0<n)(hnb:n≤1000000) :
 Calls Tryz.prog 146 #[.slice A n c,.func (.func 147) #[] #[]] w (Fw base A n c ts w):=by
 subst hn
 rcases hown.2 with ⟨_,hv⟩ | ⟨g,cap,cur,hv,hb,hg,hnc,hcm,hsz,htk⟩
 ·omega
 injection hv with h1 h2 h3
 subst h1 h3
 have hk:∀ x:Ca,(qC x).length=8:=fun _=>rfl
 have hL:(ts.flatMap qC).length=ts.length * 8:=yH qC 8 hk ts
 have hH:HoldsK qC 8 w g 0 ts.toArray:=by
  unfold HoldsK
  rw[Uj qC 8 hk (by omega)]
  exact JU hg (by rw[hL];exact htk)
 have eg:∀ args w,(callFunc 147 args).run Tryz.prog w=.ok (.enter 147 args) w:=enters_of Tryz.func147 (by kernel_rfl) rfl
 have hcmp:CmpLays Tryz.prog 147 #[] qC 8 iK g 0 ts.toArray.size w:=fun m os dk _ x y=>gJ x y _
 have hcon:=AnyQ.slices_SortFunc Tryz.sortF 8 Tryz.isAgg34 Tryz.sizeOf34 qC hk (fun x v hv=>by simp[qC] at hv;rcases hv with rfl | rfl | rfl | rfl | rfl | rfl | rfl | rfl <;> rfl) iK bE 147 #[] g 0 c ts.toArray w eg hcmp hH ((Array.getElem?_eq_some_iff.1 hg).1) (by simp;omega)
 change Calls Tryz.prog 146 _ _ _ at hcon
 have hsz2:ts.toArray.size=ts.length:=by simp
 rw[hsz2] at hcon
 refine hcon.mono ?_
 rintro e w' ⟨rfl,d',q,os,hp,hst,rfl⟩
 obtain ⟨p1,-,p3⟩:=hp
 have hds:d'.size=ts.length:=by rw[p1];simp
 have hperm:d'.toList.Perm ts:=by
  have e1:d'.extract 0 ts.length=d':=by rw[←hds];exact Array.extract_size
  have e2:ts.toArray.extract 0 ts.length=ts.toArray:=by rw[←hsz2];exact Array.extract_size
  rw[e1,e2] at p3
  exact p3
 refine ⟨rfl,d'.toList,hperm,?_,?_,JP _⟩
 ·rw[List.pairwise_iff_getElem]
  intro i j hi hj hij
  have hi':i<d'.size:=by simpa using hi
  have hj':j<d'.size:=by simpa using hj
  have h:=hst i j (Nat.zero_le _) hij (by omega)
  rw[YE] at h
  simp only[decide_eq_false_iff_not] at h
  rw[getElem!_pos d' i hi',getElem!_pos d' j hj'] at h
  have:=uT.1 h
  simpa using this
 ·have hd:d'=d'.toList.toArray:=by simp
  have hl2:(d'.toList.flatMap qC).length=ts.length * 8:=by rw[yH qC 8 hk];simp[hds]
  unfold sortWorldK putRowK
  rw[hd,Uj qC 8 hk (by omega)]
  refine ⟨by simpa using hl2,.inr ⟨g,c,_,rfl,hb,Ur _ hg,hnc,hcm,by simp[putCells,hsz],?_⟩⟩
  rw[←hl2]
  simp only[List.toList_toArray]
  exact V7 cur _ (by rw[hl2,hsz];exact Nat.mul_le_mul_right 8 hnc)
end Go.Proofs.YtdhcjhfgibmhfaaGreatDoor
namespace Go.Proofs.YtdhcjhfgibmhfaaGreatDoor
open Go.RowKit Go.Own Go.Quo Go.Inc
theorem Hq:(Tryz.prog.info? 34).map (fun i=>(i.zero,i.size,i.bytes))=some (some (.agg κ),8,88):=by kernel_rfl
theorem Xz (l:List Ca):∀ u∈l.flatMap qC,u.oneCell'=true:=by
 intro u hu
 obtain ⟨x,-,hx⟩:=List.mem_flatMap.1 hu
 simp[qC] at hx
 rcases hx with rfl | rfl | rfl | rfl | rfl | rfl | rfl | rfl <;> rfl
def dG (ts:List Ca)(w:World)(e:Ending)(w':World):Prop:=∃ A' c',e=.returned (.slice A' ts.length c')∧w'.ownsRow w.heap.size 34 8 (.slice A' ts.length c') ts.length (ts.flatMap qC)∧Below w.heap.size w w'
theorem bR (B:Nat→Prop)(A:Option Addr)(c:Nat)(l:List Ca)(w:World)(h:Reads w B 8 A l.length (l.flatMap qC))(hl:l.length≤100000):Calls Tryz.prog 145 #[.slice A l.length c] w (dG l w):=by
 have HR:=ħ h
 have d_:∀ (n c:Nat) (W:World),(binOp .eql 27 (.slice none n c) (.slice none 0 0)).run Tryz.prog W=.ok (.bool true) W:=fun _ _ _=>by rfl
 have fw:∀ (a:Addr) (n c:Nat) (W:World),(binOp .eql 27 (.slice (some a) n c) (.slice none 0 0)).run Tryz.prog W=.ok (.bool false) W:=fun _ _ _ _=>by rfl
 have ho:=World.ownsRow_made (base:=w.heap.size) (e:=34) (size:=8) w #[] 0 (Nat.le_refl _) (by simp) (by simp)
 have HO:=ħ ho
 have HB:=ħ ((Below.refl w.heap.size w).alloc (Nat.le_refl _) (.cells #[] 34))
 clear ho
 cases A with
 | none=>
  have h0:l=[]:=by
   rcases Nat.eq_zero_or_pos l.length with h0 | h0
   ·exact List.eq_nil_of_length_eq_zero h0
   ·obtain ⟨ad,e,_⟩:=h.2 h0;cases e
  subst h0
  clear h
  go_enter Tryz.func145,Tryz.ntmps145
  go_wp2_with fail
  go_ret
  exact ⟨none,0,rfl,World.ownsRow_nil _ _ _ _,Below.refl _ _⟩
 | some ad=>
  have HR1:=ħ (HR.out.alloc (.cells #[] 34))
  clear h
  go_enter Tryz.func145,Tryz.ntmps145
  go_wp2_with (at_builtin;refine ze _ rfl _ _ _ rfl w.heap.size 34 _ 8 88 Tryz.underlying27 Hq rfl (by omega) (.slice (some ⟨w.heap.size,0,none⟩) 0 0) 0 [] rfl HO.out _ (some ad) l.length c (l.flatMap qC) rfl HR1.out (Xz l) (by simp only[maxLen];omega) (by omega) (by simp) ?_;intro A2 c2 w2 hown hgr hat)
  go_ret
  have hown2:w2.ownsRow w.heap.size 34 8 (.slice A2 l.length c2) l.length (l.flatMap qC):=by simpa using hown
  refine ⟨A2,c2,by simp,hown2,?_⟩
  exact Below.grown HB.out hgr (by simp) (fun j hj=>by simp[Value.ownBlock] at hj;omega)
def Dx (ws:List Nat)(w:World)(e:Ending)(w':World):Prop:=∃ g,w.heap.size≤g∧e=.returned (.agg #[.pointer (if ZB ws=true then none else some ⟨g,0,none⟩)])∧WB w' g ws∧Below w.heap.size w w'
theorem IL (B:Nat→Prop)(A:Option Addr)(c:Nat)(l:List Int)(w:World)(h:RI w B A l)(hl:l.length≤100000):Calls Tryz.prog 169 #[.slice A l.length c] w (Dx (Qi (zA l)) w):=by
 have hp:=h.plain (by omega)
 have HR:=ħ ((h.old (by omega)).more (B':=fun k=>k<w.heap.size) (fun k hk=>hk.2))
 have HZ:=ħ (show WB ((w.alloc (.cells #[.pointer none] 191)).alloc (.cells (List.replicate 64 (Value.int .u64 0)).toArray 209)) (w.heap.size+1) (Qi (zA (l.take 0))) from by
  have:=zb.new (w.alloc (.cells #[.pointer none] 191)) 209 (List.replicate 64 (Value.int .u64 0)).toArray
  unfold WB zL
  simpa [zA,Qi,List.map_replicate] using this)
 have HX:=ħ (show zb ((w.alloc (.cells #[.pointer none] 191)).alloc (.cells (List.replicate 64 (Value.int .u64 0)).toArray 209)) w.heap.size 191 #[.pointer none] from (zb.new w 191 _).alloc _)
 have HB:=ħ (((Below.refl w.heap.size w).alloc (Nat.le_refl _) (.cells #[.pointer none] 191)).alloc (by simp) (.cells (List.replicate 64 (Value.int .u64 0)).toArray 209))
 have OL:=ħ (fun (k:Nat) (n:Nat) (hn:n<4096) (W:World) (hW:WB W (w.heap.size+1) (Qi (zA (l.take k))))=>nV (w.heap.size+1) _ n hn W hW (j5 zV) (YV zV))
 simp only[List.replicate_succ,List.replicate_zero] at HZ HX HB
 clear h
 go_enter Tryz.func169,Tryz.ntmps169
 go_wp2_with fail
 generalize (w.alloc (.cells #[.pointer none] 191)).alloc _=W2 at *
 have HS:=ħ (fun (W:World) (hW:WB W (w.heap.size+1) (Qi (zA l)))=>uN (w.heap.size+1) _ W hW (j5 zV))
 go_loopw [8] (fun vi wr=>∃ (k:Nat),k≤l.length∧vi=ι k∧WB wr (w.heap.size+1) (Qi (zA (l.take k)))∧zb wr w.heap.size 191 #[.pointer none]∧Below w.heap.size w wr) (fun vi _=>l.length - (intOf vi).toNat)
 case atStart=>exact ⟨0,Nat.zero_le _,rfl,HZ.out,HX.out,HB.out⟩
 case round=>
  obtain ⟨k,hk,rfl,hz,hx,hbel⟩:=hrel
  have sV:=ħ hz
  have Xx:=ħ hx
  have XJ:=ħ hbel
  clear hz hx hbel
  by_cases hlt:k<l.length
  ·have hlt':(k:Int)<l.length:=by omega
   have hix:=fun W=>JI hp c k hlt W
   have hc:=qJ (HR.out.below XJ.out (fun _ h=>h)) hlt
   have Xj:=ħ (show zA (l.take (k+1))=if 0≤gd l k∧gd l k<4096 then zA (l.take k) ++ [(gd l k).toNat] else zA (l.take k) by
    rw[List.take_add_one,List.getElem?_eq_getElem hlt,←U_,qd hlt];rfl)
   by_cases h0:0≤gd l k∧gd l k<4096
   ·obtain ⟨n,hn⟩:∃ n:Nat,gd l k=n:=⟨(gd l k).toNat,by omega⟩
    rw[hn] at hc h0
    have HT2:=ħ (show Qi (zA (l.take (k+1)))=Yu (Qi (zA (l.take k))) n by
     rw[Xj.out,hn,if_pos h0,El];rfl)
    have HA:=ħ (OL.out k n (by omega) wr sV.out)
    have d2:decide ((n:Int)<4096)=true:=by simp;omega
    have Pw:n<4096:=by omega
    clear h0 hn Xj
    go_wp2_with (go_at_call 191;((with_reducible refine HA.out.mono ?_);rintro e w3 ⟨rfl,hz3,hf3⟩))
    refine ⟨⟨k+1,by omega,by go_num,by rw[HT2.out];exact hz3,Xx.out.fr hf3 (by omega),XJ.out.trans (hf3.below XJ.out.size (fun k hk e=>by omega))⟩,by simp[intOf];omega⟩
   ·have HT2:=ħ (show Qi (zA (l.take (k+1)))=Qi (zA (l.take k)) by rw[Xj.out,if_neg h0])
    by_cases h1:0≤gd l k
    ·have d2:decide (gd l k<4096)=false:=by simp;omega
     have d1:decide (0≤gd l k)=true:=by simpa using h1
     clear h0 h1 Xj
     generalize gd l k=v at *
     go_wp2_with fail
     exact ⟨⟨k+1,by omega,by go_num,by rw[HT2.out];exact sV.out,Xx.out,XJ.out⟩,by simp[intOf];omega⟩
    ·have d1:decide (0≤gd l k)=false:=by simpa using h1
     clear h0 h1 Xj
     generalize gd l k=v at *
     go_wp2_with fail
     exact ⟨⟨k+1,by omega,by go_num,by rw[HT2.out];exact sV.out,Xx.out,XJ.out⟩,by simp[intOf];omega⟩
  ·have hlt':¬ (k:Int)<l.length:=by omega
   have he:k=l.length:=by omega
   subst he
   have su:=ħ (show WB wr (w.heap.size+1) (Qi (zA l)) by have:=sV.out;rwa [List.take_length] at this)
   have iw:=XJ.out.size
   have hgl:=su.out.lt
   have hxl:=Xx.out.lt
   cases hzz:ZB (Qi (zA l)) with
   | false=>
    rw[hzz] at HS
    go_wp2_with (go_at_call 192;((with_reducible refine (HS.out _ su.out).mono ?_);rintro e w3 ⟨rfl,hb3⟩;have qx:=ħ (Xx.out.below hb3 hxl);have HZ3:=ħ (show WB w3 _ _ from zb.below su.out hb3 hgl);have HB3:=ħ (XJ.out.trans (hb3.mono iw));obtain ⟨x0,x1,x2⟩:=qx.out.facts))
    have HF:=ħ (fun (u:Value)=>(((Fr.of_below HB3.out (S:=fun _=>False)).setCell (p:=⟨w.heap.size,0,none⟩) (.inr (Nat.le_refl _)) u).below (B:=w.heap.size) (Nat.le_refl _) (fun _ _=>id)))
    have HW:=ħ (fun (u:Value)=>zb.far (p:=⟨w.heap.size,0,none⟩) HZ3.out (by simp) u)
    have hc3:(w3.cell? ⟨w.heap.size,0,none⟩).isSome=true:=by rw[x1];rfl
    refine bodyPost_ret (v:=.agg #[.pointer (some ⟨w.heap.size+1,0,none⟩)]) (by simp[results,Tryz.results169,go_sem,hc3]) rfl ⟨w.heap.size+1,by omega,by simp[hzz],HW.out _,HF.out _⟩
   | true=>
    rw[hzz] at HS
    go_wp2_with (go_at_call 192;((with_reducible refine (HS.out _ su.out).mono ?_);rintro e w3 ⟨rfl,hb3⟩;have qx:=ħ (Xx.out.below hb3 hxl);have HZ3:=ħ (show WB w3 _ _ from zb.below su.out hb3 hgl);have HB3:=ħ (XJ.out.trans (hb3.mono iw));obtain ⟨x0,x1,x2⟩:=qx.out.facts))
    have HF:=ħ (fun (u:Value)=>(((Fr.of_below HB3.out (S:=fun _=>False)).setCell (p:=⟨w.heap.size,0,none⟩) (.inr (Nat.le_refl _)) u).below (B:=w.heap.size) (Nat.le_refl _) (fun _ _=>id)))
    have HW:=ħ (fun (u:Value)=>zb.far (p:=⟨w.heap.size,0,none⟩) HZ3.out (by simp) u)
    have hc3:(w3.cell? ⟨w.heap.size,0,none⟩).isSome=true:=by rw[x1];rfl
    refine bodyPost_ret (v:=.agg #[.pointer none]) (by simp[results,Tryz.results169,go_sem,hc3]) rfl ⟨w.heap.size+1,by omega,by simp[hzz],HW.out _,HF.out _⟩
end Go.Proofs.YtdhcjhfgibmhfaaGreatDoor
namespace Go.Own
section
variable {P:Program} {init:Array Oper} {last:Oper} {Q:Exit→Act→World→Prop} {S:World→Prop}
def Qy (P:Program)(ops:Array Oper)(n:Nat)(Q:Exit→Act→World→Prop):Exit→Act→World→Prop
 | .normal,a,w=>wpOps P ops Q [n] a w
 | e,a,w=>Q e a w
def ZF (init:Array Oper)(last:Oper):Bool:=
 ((List.range init.size).all fun i=>match init[i]? with
  | some o=>(o.after.all fun e=>!Region.binds .any e || decide (e.on<i)) && (match o.guard with | none=>true | some (g,_)=>decide (g<init.size))
  | none=>true) &&
 (last.after.all fun e=>decide (e.on<init.size)) &&
 ((List.range init.size).all fun j=>last.after.any fun e=>Region.binds .any e && (e.on == j || (match init[e.on]? with
  | some o=>o.after.any fun e'=>Region.binds .any e' && e'.on == j
  | none=>false)))
theorem Vy (init:Array Oper)(last:Oper){i:Nat}(h:i<init.size):(init.push last)[i]?=init[i]?:=by
 rw[Array.getElem?_push];simp;omega
theorem Y5 (init:Array Oper)(last:Oper):(init.push last)[init.size]?=some last:=by
 rw[Array.getElem?_push];simp
theorem Ku (P:Program)(ops:Array Oper)(n:Nat)(Q:Exit→Act→World→Prop)(e:Exit)(a:Act)(w:World)(he:e≠.normal):Qy P ops n Q e a w=Q e a w:=by
 cases e <;> first | rfl | exact absurd rfl he
theorem Oper.wp_post {o:Oper}{a:Act}{w:World}{K:Act→World→Prop}{Q Q':Exit→Act→World→Prop}(h:∀ e a w,e≠.normal→Q' e a w→Q e a w)
 (hh:o.wp P a w K Q'):o.wp P a w K Q:=by
 unfold Oper.wp at *
 generalize (execOp a.eval o).run P w=r at *
 cases r with
 | ok n w'=>
  cases n <;> simp only[Oper.upon] at hh⊢ <;>
   first
    | exact hh
    | exact Calls.mono hh (fun e w'' he=>by
     cases e with
     | returned v=>exact he
     | panicked c=>exact h _ _ _ (by simp) he
     | outgrown=>exact (by obtain ⟨a,w,q⟩:=he;exact ⟨a,w,h _ _ _ (by simp) q⟩))
 | halt x w'=>cases x <;> simp only[Oper.upon] at hh⊢ <;> first | exact hh | exact h _ _ _ (by simp) hh
theorem v_ {i:Nat}{n:Nat}{a:Act}{w:World}{K:Act→World→Prop}(hi:i<init.size)
 (hg:∀ o g b,init[i]?=some o→o.guard=some (g,b)→g<init.size)
 (h:wpOp P init (Qy P (init.push last) n Q) i K a w):wpOp P (init.push last) Q i K a w:=by
 unfold wpOp at *
 rw[Vy init last hi]
 have ho:init[i]?=some init[i]:=Array.getElem?_eq_getElem hi
 rw[ho] at h⊢
 simp only at h⊢
 have hw:Region.wanted init[i] (yielded (init.push last) a.tmps)=Region.wanted init[i] (yielded init a.tmps):=by
  unfold Region.wanted
  cases hgd:init[i].guard with
  | none=>rfl
  | some gb=>
   obtain ⟨g,b⟩:=gb
   have:=hg _ g b ho hgd
   simp only[yielded,Vy init last this]
 rw[hw]
 split
 ·rename_i hww
  rw[if_pos hww] at h
  rcases h with h | ⟨h1,a',w',q⟩
  ·exact .inl (Oper.wp_post (fun e a w he q=>by rw[Ku _ _ _ _ _ _ _ he] at q;exact q) h)
  ·exact .inr ⟨h1,a',w',q⟩
 ·rename_i hww
  rw[if_neg hww] at h
  exact h
def Closed (init:Array Oper)(listed:Array Bool):Prop:=
 ∀ (k:Nat) (o:Oper),listed.getD k false=true→init[k]?=some o→∀ e∈o.after,Region.binds .any e=true→listed.getD e.on false=true
theorem getD_lt {listed:Array Bool}{j:Nat}(h:j<listed.size)(d d':Bool):listed.getD j d=listed.getD j d':=by
 simp[h]
theorem jL {listed:Array Bool}{j:Nat}(h:j<listed.size)(b d:Bool):(listed.push b).getD j d=listed.getD j d:=by
 have:j≠listed.size:=by omega
 simp[Array.getElem?_push,this]
theorem YP {listed:Array Bool}(b d:Bool):(listed.push b).getD listed.size d=b:=by
 simp[Array.getElem?_push]
theorem Dv {α:Type}{xs:Array α}{p:α→Bool}(h:xs.any p=true):∃ x∈xs,p x=true:=by
 rw[Array.any_eq_true] at h
 obtain ⟨i,hi,hp⟩:=h
 exact ⟨xs[i],Array.getElem_mem hi,hp⟩
theorem je (h:ZF init last=true) :
 (∀ (i:Nat) (o:Oper),init[i]?=some o→(∀ e∈o.after,Region.binds .any e=true→e.on<i)∧∀ g b,o.guard=some (g,b)→g<init.size) ∧
 (∀ e∈last.after,e.on<init.size) ∧
 (∀ j,j<init.size→∃ e∈last.after,Region.binds .any e=true∧(e.on=j∨∃ o,init[e.on]?=some o∧∃ e'∈o.after,Region.binds .any e'=true∧e'.on=j)):=by
 unfold ZF at h
 simp only[Bool.and_eq_true,List.all_eq_true,List.mem_range,Array.all_eq_true_iff_forall_mem,decide_eq_true_eq] at h
 obtain ⟨⟨h1,h2⟩,h3⟩:=h
 refine ⟨fun i o ho=>?_,h2,fun j hj=>?_⟩
 ·have hi:i<init.size:=by
   rcases Nat.lt_or_ge i init.size with h | h
   ·exact h
   ·rw[Array.getElem?_eq_none h] at ho;cases ho
  have:=h1 i hi
  rw[ho] at this
  simp only[Bool.and_eq_true,Array.all_eq_true_iff_forall_mem,decide_eq_true_eq] at this
  refine ⟨fun e he hb=>by have:=this.1 e he;rw[hb] at this;simpa using this,fun g b hg=>?_⟩
  have:=this.2
  rw[hg] at this
  simpa using this
 ·have:=h3 j hj
  obtain ⟨e,he,h⟩:=Dv this
  simp only[Bool.and_eq_true,Bool.or_eq_true,beq_iff_eq] at h
  refine ⟨e,he,h.1,?_⟩
  rcases h.2 with h | h
  ·exact .inl h
  ·right
   split at h
   ·rename_i o ho
    obtain ⟨e',he',h⟩:=Dv h
    simp only[Bool.and_eq_true,beq_iff_eq] at h
    exact ⟨o,ho,e',he',h.1,h.2⟩
   ·cases h
theorem XY (hok:ZF init last=true){listed:Array Bool}(hs:listed.size=init.size)(h:Region.ready .any init listed=[]):∀ j,j<init.size→listed.getD j false=true:=by
 intro j
 induction j using Nat.strongRecOn with
 | ind j ih=>
  intro hj
  cases hb:listed.getD j false with
  | true=>rfl
  | false=>
   have ho:init[j]?=some init[j]:=Array.getElem?_eq_getElem hj
   have:j∈Region.ready .any init listed:=mem_ready.2 ⟨by rw[getD_lt (by omega) true false];exact hb,_,ho,fun e he hbd=>by
    have:=((je hok).1 j _ ho).1 e he hbd
    exact ih _ this (by omega)⟩
   rw[h] at this
   cases this
theorem Vd (hok:ZF init last=true){listed:Array Bool}(hs:listed.size=init.size)(h:∀ j,j<init.size→listed.getD j false=true) :
 init.size∈Region.ready .any (init.push last) (listed.push false):=by
 refine mem_ready.2 ⟨?_,last,Y5 _ _,fun e he hb=>?_⟩
 ·rw[←hs,YP]
 ·have:=(je hok).2.1 e he
  rw[jL (by omega)]
  exact h _ this
theorem Qd (hok:ZF init last=true){listed:Array Bool}(hs:listed.size=init.size){b:Bool}{i:Nat}(hi:i<init.size) :
 i∈Region.ready .any (init.push last) (listed.push b)↔i∈Region.ready .any init listed:=by
 rw[mem_ready,mem_ready,Vy init last hi,jL (by omega)]
 have ho:init[i]?=some init[i]:=Array.getElem?_eq_getElem hi
 constructor
 ·rintro ⟨h1,o,h2,h3⟩
  refine ⟨h1,o,h2,fun e he hb=>?_⟩
  have h4:=h3 e he hb
  have:=((je hok).1 i o h2).1 e he hb
  rw[jL (by omega)] at h4
  exact h4
 ·rintro ⟨h1,o,h2,h3⟩
  refine ⟨h1,o,h2,fun e he hb=>?_⟩
  have h4:=h3 e he hb
  have:=((je hok).1 i o h2).1 e he hb
  rw[jL (by omega)]
  exact h4
theorem ZT {ops:Array Oper}{listed:Array Bool}{i:Nat}(h:i∈Region.ready .any ops listed):i<ops.size:=by
 obtain ⟨-,o,h,-⟩:=mem_ready.1 h
 rcases Nat.lt_or_ge i ops.size with h' | h'
 ·exact h'
 ·rw[Array.getElem?_eq_none h'] at h;cases h
theorem xy (hok:ZF init last=true){listed:Array Bool}(hs:listed.size=init.size)(hc:Closed init listed)
 (h:init.size∈Region.ready .any (init.push last) (listed.push false)):Region.ready .any init listed=[]:=by
 obtain ⟨-,o,ho,h3⟩:=mem_ready.1 h
 rw[Y5] at ho
 injection ho with ho
 subst ho
 have hall:∀ j,j<init.size→listed.getD j false=true:=fun j hj=>by
  obtain ⟨e,he,hb,h⟩:=(je hok).2.2 j hj
  have h4:=h3 e he hb
  have hlt:=(je hok).2.1 e he
  rw[jL (by omega)] at h4
  rcases h with rfl | ⟨o,ho,e',he',hb',rfl⟩
  ·exact h4
  ·exact hc _ o h4 ho e' he' hb'
 cases hr:Region.ready .any init listed with
 | nil=>rfl
 | cons x xs=>
  have hx:x∈Region.ready .any init listed:=by rw[hr];exact List.mem_cons_self
  have h1:=(mem_ready.1 hx).1
  have h2:=hall x (ZT hx)
  rw[getD_lt (by have:=ZT hx;omega) true false,h2] at h1
  cases h1
theorem Closed.set {listed:Array Bool}{i:Nat}(hs:listed.size=init.size)(hc:Closed init listed)(hi:i∈Region.ready .any init listed):Closed init (listed.setIfInBounds i true):=by
 intro k o hk ho e he hb
 by_cases hki:i=k
 ·subst hki
  obtain ⟨-,o',ho',h⟩:=mem_ready.1 hi
  rw[ho] at ho'
  injection ho' with ho'
  subst ho'
  exact getD_set_true (h e he hb)
 ·rw[getD_set_ne _ hki] at hk
  exact getD_set_true (hc k o hk ho e he hb)
theorem Ej {listed:Array Bool}{i:Nat}(h:i<listed.size)(b:Bool):(listed.push b).setIfInBounds i true=(listed.setIfInBounds i true).push b:=by
 apply Array.ext_getElem?
 intro j
 simp only[Array.getElem?_setIfInBounds,Array.getElem?_push,Array.size_setIfInBounds,Array.size_push]
 by_cases hij:i=j
 ·subst hij
  have h1:i≠listed.size:=by omega
  have h2:i<listed.size+1:=by omega
  simp[h,h1,h2]
 ·simp[hij]
theorem VS {listed:Array Bool}:(listed.push false).setIfInBounds listed.size true=listed.push true:=by
 apply Array.ext_getElem?
 intro j
 simp only[Array.getElem?_setIfInBounds,Array.getElem?_push,Array.size_push]
 by_cases hij:listed.size=j
 ·subst hij
  simp
 ·have:j≠listed.size:=fun e=>hij e.symm
  simp[hij,this]
theorem Fs (hok:ZF init last=true){listed:Array Bool}(hs:listed.size=init.size)(h:Region.ready .any init listed=[]):Region.ready .any (init.push last) (listed.push true)=[]:=by
 cases hr:Region.ready .any (init.push last) (listed.push true) with
 | nil=>rfl
 | cons x xs=>
  have hx:x∈Region.ready .any (init.push last) (listed.push true):=by rw[hr];exact List.mem_cons_self
  have hxs:=ZT hx
  simp at hxs
  by_cases tJ:x=init.size
  ·subst tJ
   have:=(mem_ready.1 hx).1
   rw[←hs,YP] at this
   cases this
  ·have:=(Qd hok hs (by omega)).1 hx
   rw[h] at this
   cases this
theorem Ue (hok:ZF init last=true){listed:Array Bool}(hs:listed.size=init.size)(hr:Region.ready .any init listed=[]){m:Nat}{a:Act}{w:World}
 (h:wpOps P (init.push last) Q [init.size] a w):wpOp P (init.push last) Q init.size (wpAny P .any (init.push last) Q m ((listed.push false).setIfInBounds init.size true)) a w:=by
 rw[wpOps_cons] at h
 refine wpOp_mono (fun a w q=>?_) h
 have hn:Region.ready .any (init.push last) ((listed.push false).setIfInBounds init.size true)=[]:=by rw[←hs,VS];exact Fs hok hs hr
 cases m with
 | zero=>exact ⟨hn,q⟩
 | succ m=>exact ⟨fun _=>q,fun i hi=>(by rw[hn] at hi;cases hi)⟩
theorem vS (hok:ZF init last=true):∀ (m:Nat) (listed:Array Bool) (a:Act) (w:World),listed.size=init.size→Closed init listed →
 wpAnyH P .any init (Qy P (init.push last) init.size Q) S m listed a w→wpAny P .any (init.push last) Q (m+1) (listed.push false) a w:=by
 intro m
 induction m with
 | zero=>
  intro listed a w hs hc h
  obtain ⟨h0,h1⟩:=h
  have hl:=Vd hok hs (XY hok hs h0)
  refine ⟨fun h=>(by rw[h] at hl;cases hl),fun i hi=>?_⟩
  have hle:=ZT hi
  simp at hle
  by_cases hin:i=init.size
  ·subst hin;exact Ue hok hs h0 h1
  ·have:=(Qd hok hs (by omega)).1 hi
   rw[h0] at this;cases this
 | succ m ih=>
  intro listed a w hs hc h
  obtain ⟨h0,h1⟩:=h
  refine ⟨fun h=>?_,fun i hi=>?_⟩
  ·exfalso
   have hr:Region.ready .any init listed=[]:=by
    cases hr:Region.ready .any init listed with
    | nil=>rfl
    | cons x xs=>
     have hx:x∈Region.ready .any init listed:=by rw[hr];exact List.mem_cons_self
     have:=(Qd (b:=false) hok hs (ZT hx)).2 hx
     rw[h] at this;cases this
   have:=Vd hok hs (XY hok hs hr)
   rw[h] at this;cases this
  ·have hle:=ZT hi
   simp at hle
   by_cases hin:i=init.size
   ·subst hin
    have hr:=xy hok hs hc hi
    exact Ue hok hs hr (h0 hr)
   ·have hi':=(Qd hok hs (by omega)).1 hi
    refine wpOp_mono (fun a w q=>?_) (v_ (by omega) (fun o g b ho hg=>((je hok).1 i o ho).2 g b hg) (h1 i hi'))
    rw[Ej (by omega)]
    exact ih _ a w (by simp[hs]) (hc.set hs hi') q.2
theorem qb {ops:Array Oper}{n:Nat}{a:Act}{w:World}(o:Oper)(ho:ops[n]?=some o)
 (h:∀ K':Act→World→Prop,(∀ a w,Q .normal a w→K' a w)→if Region.wanted o (yielded ops a.tmps)=true then Oper.wp P o a w K' Q else K' (a.put o.dst undef) w) :
 Qy P ops n Q .normal a w:=by
 show wpOps P ops Q [n] a w
 rw[wpOps_cons]
 exact wpOp_step ho (fun K' hK=>h K' (fun a w q=>hK a w q))
theorem qW {ops:Array Oper}{id:Nat}{a:Act}{w:World}(init:Array Oper)(last:Oper)(hops:ops=init.push last)(hm:P.follows .mixedOrders=true)(hok:ZF init last=true)(hS:S w.drew)
 (h:S w.drew→wpAnyH P .any init (Qy P ops init.size Q) S init.size (Array.replicate init.size false) a w.drew):(Code.region id ops true).wp P Q a w:=by
 subst hops
 refine wp_region_any hm ?_
 have:=vS hok init.size (Array.replicate init.size false) a w.drew (by simp) (fun k o hk ho=>by
  exfalso
  rcases Nat.lt_or_ge k init.size with hlt | hge
  ·simp[hlt] at hk
  ·rw[Array.getElem?_eq_none hge] at ho;cases ho) (h hS)
 have hr:Array.replicate (init.push last).size false=(Array.replicate init.size false).push false:=by
  rw[Array.size_push,Array.replicate_succ]
 rw[hr,Array.size_push]
 exact this
end
end Go.Own
