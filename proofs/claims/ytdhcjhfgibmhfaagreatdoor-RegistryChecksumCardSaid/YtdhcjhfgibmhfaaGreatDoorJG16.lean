import Derived.Test.YtdhcjhfgibmhfaaGreatDoorJG15
import Derived.Test.YtdhcjhfgibmhfaaGreatDoorJG10
import Derived.Deep.Cut
import Derived.Deep.CutBlock
import Derived.Deep.DeepCutAuto
import Derived.Deep.MidRow
import Derived.Test.YtdhcjhfgibmhfaaGreatDoorJG3
import Derived.Test.YtdhcjhfgibmhfaaGreatDoorJG7
import Derived.Test.YtdhcjhfgibmhfaaGreatDoorJG11
import Derived.Test.YtdhcjhfgibmhfaaGreatDoorJG13
import Derived.Test.YtdhcjhfgibmhfaaGreatDoorProg
import Derived.Test.YtdhcjhfgibmhfaaGreatDoorJG1
import Derived.IntWalk
set_option linter.unusedVariables false
set_option linter.unusedSimpArgs false
set_option maxRecDepth 10000
set_option maxHeartbeats 4000000
namespace Go.Proofs.YtdhcjhfgibmhfaaGreatDoor
open Go.RowKit Go.Own Go.Quo Go.Inc
theorem wV:∃ i,Tryz.prog.info? 48=some i∧i.size=10:=by obtain ⟨i,h,_,h2,_⟩:=info_parts zJ;exact ⟨i,h,h2⟩
theorem JZ {A:Option Addr}{n:Nat}(hA:Plain A n)(c k:Nat)(hk:k<n)(w:World):(Instr.indexAt 26 (.slice A n c) (ι (k:Int))).run Tryz.prog w=.ok (.pointer (some ⟨bk A,qP A+k * 10,none⟩)) w:=by
 obtain ⟨i,h1,h2⟩:=wV
 exact jk (P:=Tryz.prog) Tryz.underlying26 h1 h2 hA c k hk w
theorem jM:(Tryz.prog.info? 34).map (fun i=>(i.zero,i.size,i.bytes))=some (some (.agg κ),8,88):=by kernel_rfl
theorem jN:(Tryz.prog.info? 34).map (·.size)=some 8:=by kernel_rfl
theorem Iu:∃ i,Tryz.prog.info? 34=some i∧i.size=8:=by obtain ⟨i,h,_,h2,_⟩:=info_parts jM;exact ⟨i,h,h2⟩
theorem UC {A:Option Addr}{n:Nat}(hA:Plain A n)(c k:Nat)(hk:k<n)(w:World):(Instr.indexAt 27 (.slice A n c) (ι (k:Int))).run Tryz.prog w=.ok (.pointer (some ⟨bk A,qP A+k * 8,none⟩)) w:=by
 obtain ⟨i,h1,h2⟩:=Iu
 exact jk (P:=Tryz.prog) Tryz.underlying27 h1 h2 hA c k hk w
theorem Jf {α:Type}(f:α→List Value)(s:Nat)(hs:0<s)(hf:∀ a,(f a).length=s){w:World}{B:Nat→Prop}{A:Option Addr}{l:List α}(h:Reads w B s A l.length (l.flatMap f)){k:Nat}(hk:k<l.length):w.rangeAt (bk A) (qP A+k * s) (f l[k]):=by
 intro j v hv
 have hj:j<s:=by have:=(List.getElem?_eq_some_iff.1 hv).1;rw[hf] at this;exact this
 have hlt:k * s+j<l.length * s:=by
  have:(k+1) * s≤l.length * s:=Nat.mul_le_mul_right _ hk
  rw[Nat.succ_mul] at this;omega
 have:=h.cell2 (k * s+j) hlt hs
 rw[flat_get f s hf l k j _ (List.getElem?_eq_getElem hk) hj] at this
 rw[Nat.add_assoc,this];exact hv
theorem XQ {w:World}{B:Nat→Prop}{A:Option Addr}{l:List Xa}(h:Reads w B 10 A l.length (l.flatMap Yz)){k:Nat}(hk:k<l.length):w.rangeAt (bk A) (qP A+k * 10) (Yz l[k]):=Jf Yz 10 (by omega) (fun _=>rfl) h hk
theorem QB {w:World}{B:Nat→Prop}{A:Option Addr}{l:List Ca}(h:Reads w B 8 A l.length (l.flatMap qC)){k:Nat}(hk:k<l.length):w.rangeAt (bk A) (qP A+k * 8) (qC l[k]):=Jf qC 8 (by omega) (fun _=>rfl) h hk
theorem KG (a:Xa):∃ (u:Int) (s:ByteArray) (A1:Option Addr) (n1 c1:Nat) (d e:Int) (A2:Option Addr) (n2 c2:Nat) (A3:Option Addr) (n3 c3:Nat) (m:Int) (f:Bool),Yz a=[ι a.x.id,ι u,.string s,.slice A1 n1 c1,ι d,ι e,.slice A2 n2 c2,.slice A3 n3 c3,ι m,.bool f]:=⟨_,_,_,_,_,_,_,_,_,_,_,_,_,_,_,rfl⟩
theorem KS (a:Ca):∃ (g u:Int) (s:ByteArray) (A1:Option Addr) (n1 c1:Nat) (d e:Int) (f:Bool),qC a=[ι a.c.call,ι g,ι u,.string s,.slice A1 n1 c1,ι d,ι e,.bool f]:=⟨_,_,_,_,_,_,_,_,_,rfl⟩
def GI {α:Type}(key:α→Int)(l:List α)(k:Int):Int:=match l.findIdx? (fun x=>key x == k) with | some i=>(i:Int) | none=>-1
theorem Hu {α:Type}{key:α→Int}{l:List α}{k:Int}{i:Nat}(hi:i<l.length)(h:key l[i]=k)(hb:∀ j,∀ hj:j<i,key (l[j]'(by omega))≠k):GI key l k=(i:Int):=by
 unfold GI
 have:l.findIdx? (fun x=>key x == k)=some i:=by
  rw[List.findIdx?_eq_some_iff_getElem]
  exact ⟨hi,by simpa using h,fun j hj=>by simpa using hb j hj⟩
 rw[this]
theorem Ar {α:Type}{key:α→Int}{l:List α}{k:Int}(hb:∀ j,∀ hj:j<l.length,key l[j]≠k):GI key l k = -1:=by
 unfold GI
 have:l.findIdx? (fun x=>key x == k)=none:=by
  rw[List.findIdx?_eq_none_iff]
  intro x hx
  obtain ⟨j,hj,rfl⟩:=List.mem_iff_getElem.1 hx
  simpa using hb j hj
 rw[this]
theorem qH {α:Type}(key:α→Int)(l:List α)(k:Int):(∃ i:Nat,GI key l k=(i:Int)∧∃ h:i<l.length,yw key l k=some l[i])∨(GI key l k = -1∧yw key l k=none):=by
 unfold GI yw
 cases hf:l.findIdx? (fun x=>key x == k) with
 | none=>
  right
  refine ⟨rfl,?_⟩
  rw[List.findIdx?_eq_none_iff] at hf
  rw[List.find?_eq_none]
  intro x hx
  have:=hf x hx
  simpa using this
 | some i=>
  left
  refine ⟨i,rfl,?_⟩
  rw[List.findIdx?_eq_some_iff_getElem] at hf
  obtain ⟨h1,h2,h3⟩:=hf
  refine ⟨h1,?_⟩
  rw[List.find?_eq_some_iff_getElem]
  exact ⟨h2,i,h1,rfl,fun j hj=>by simpa using h3 j hj⟩
theorem Z4 (v:Bv)(B:Nat→Prop)(id:Int)(w:World)(h:zX w B v)(hl:v.la.length≤100000) :
 Calls Tryz.prog 20 #[YW v,ι id] w (fun e w'=>e=.returned (ι (GI (fun a:Xa=>a.x.id) v.la id))∧Below w.heap.size w w'):=by
 have hp:=h.rl.plain (by omega)
 have HR:=ħ (h.rl.old (by omega))
 have HB:=ħ ((Below.refl w.heap.size w).alloc (Nat.le_refl _) (.cells #[.slice v.AL v.la.length v.cL,.slice v.AC v.lc.length v.cC] 29))
 have x0:=(zb.new w 29 #[.slice v.AL v.la.length v.cL,.slice v.AC v.lc.length v.cC]).facts
 clear h
 obtain ⟨la,AL,cL,lc,AC,cC⟩:=v
 simp only at *
 go_enter Tryz.func20,Tryz.ntmps20
 go_wp2_with fail
 generalize w.alloc _=W1 at *
 clear x0
 go_loopw [10] (fun vi wr=>∃ k:Nat,k≤la.length∧vi=ι (k:Int)∧(∀ j,∀ hj:j<k,∀ h2:j<la.length,la[j].x.id≠id)∧Below w.heap.size w wr) (fun vi _=>la.length - (intOf vi).toNat)
 case atStart=>exact ⟨0,Nat.zero_le _,rfl,fun j hj=>absurd hj (Nat.not_lt_zero _),HB.out⟩
 case round=>
  obtain ⟨k,hk,rfl,hn,hb⟩:=hrel
  have HN:=ħ hn
  have Q0:=ħ hb
  clear hn HB
  by_cases hlt:k<la.length
  ·have hlt':(k:Int)<la.length:=by omega
   have hix:=fun W=>JZ hp cL k hlt W
   have VP:=ħ (XQ (HR.out.below hb (fun j hj=>hj.2)) hlt)
   obtain ⟨u,s,A1,n1,c1,d,e,A2,n2,c2,A3,n3,c3,m,f,hx⟩:=KG la[k]
   rw[hx] at VP
   clear hx hb
   have HK:=ħ (show ∃ i,i=la[k].x.id from ⟨_,rfl⟩)
   obtain ⟨i,hi⟩:=HK.out
   rw[←hi] at VP
   have HI:=ħ hi
   clear hi
   have hr:=VP.out
   by_cases he:i=id
   ·subst he
    go_wp2_with (refine wpList_load_mid rfl 48 _ rfl (bk AL) (qP AL+k * 10) rfl [ι i,ι u,.string s,.slice A1 n1 c1,ι d,ι e,.slice A2 n2 c2,.slice A3 n3 c3,ι m,.bool f] _ hr Tryz.underlying48 rfl qo ?_)
    go_ret
    exact ⟨by rw[Hu (key:=fun a:Xa=>a.x.id) hlt HI.out.symm (fun j hj=>HN.out j hj (by omega))];rfl,Q0.out.alloc Q0.out.size _⟩
   ·have he2:(i == id)=false:=by simpa using he
    have HE:=ħ he
    clear he
    go_wp2_with (refine wpList_load_mid rfl 48 _ rfl (bk AL) (qP AL+k * 10) rfl [ι i,ι u,.string s,.slice A1 n1 c1,ι d,ι e,.slice A2 n2 c2,.slice A3 n3 c3,ι m,.bool f] _ hr Tryz.underlying48 rfl qo ?_)
    refine ⟨⟨k+1,by omega,by go_num,fun j hj h2=>?_,Q0.out.alloc Q0.out.size _⟩,by simp[intOf];omega⟩
    by_cases hjk:j=k
    ·subst hjk;rw[←HI.out];exact HE.out
    ·exact HN.out j (by omega) h2
  ·have hlt':¬ (k:Int)<la.length:=by omega
   have hk3:k=la.length:=by omega
   subst hk3
   clear hb
   go_wp2_with fail
   go_ret
   exact ⟨by rw[Ar (key:=fun a:Xa=>a.x.id) (fun j hj=>HN.out j hj hj)];rfl,Q0.out⟩
theorem XT (v:Bv)(B:Nat→Prop)(id:Int)(w:World)(h:zX w B v)(hl:v.lc.length≤100000) :
 Calls Tryz.prog 24 #[YW v,ι id] w (fun e w'=>e=.returned (ι (GI (fun a:Ca=>a.c.call) v.lc id))∧Below w.heap.size w w'):=by
 have hp:=h.rc.plain (by omega)
 have HR:=ħ (h.rc.old (by omega))
 have HB:=ħ ((Below.refl w.heap.size w).alloc (Nat.le_refl _) (.cells #[.slice v.AL v.la.length v.cL,.slice v.AC v.lc.length v.cC] 29))
 have x0:=(zb.new w 29 #[.slice v.AL v.la.length v.cL,.slice v.AC v.lc.length v.cC]).facts
 clear h
 obtain ⟨la,AL,cL,lc,AC,cC⟩:=v
 simp only at *
 go_enter Tryz.func24,Tryz.ntmps24
 go_wp2_with fail
 generalize w.alloc _=W1 at *
 clear x0
 go_loopw [10] (fun vi wr=>∃ k:Nat,k≤lc.length∧vi=ι (k:Int)∧(∀ j,∀ hj:j<k,∀ h2:j<lc.length,lc[j].c.call≠id)∧Below w.heap.size w wr) (fun vi _=>lc.length - (intOf vi).toNat)
 case atStart=>exact ⟨0,Nat.zero_le _,rfl,fun j hj=>absurd hj (Nat.not_lt_zero _),HB.out⟩
 case round=>
  obtain ⟨k,hk,rfl,hn,hb⟩:=hrel
  have HN:=ħ hn
  have Q0:=ħ hb
  clear hn HB
  by_cases hlt:k<lc.length
  ·have hlt':(k:Int)<lc.length:=by omega
   have hix:=fun W=>UC hp cC k hlt W
   have VP:=ħ (QB (HR.out.below hb (fun j hj=>hj.2)) hlt)
   obtain ⟨g,u,s,A1,n1,c1,d,e,f,hx⟩:=KS lc[k]
   rw[hx] at VP
   clear hx hb
   have HK:=ħ (show ∃ i,i=lc[k].c.call from ⟨_,rfl⟩)
   obtain ⟨i,hi⟩:=HK.out
   rw[←hi] at VP
   have HI:=ħ hi
   clear hi
   have hr:=VP.out
   by_cases he:i=id
   ·subst he
    go_wp2_with (refine wpList_load_mid rfl 34 _ rfl (bk AC) (qP AC+k * 8) rfl [ι i,ι g,ι u,.string s,.slice A1 n1 c1,ι d,ι e,.bool f] _ hr Tryz.underlying34 rfl jN ?_)
    go_ret
    exact ⟨by rw[Hu (key:=fun a:Ca=>a.c.call) hlt HI.out.symm (fun j hj=>HN.out j hj (by omega))];rfl,Q0.out.alloc Q0.out.size _⟩
   ·have he2:(i == id)=false:=by simpa using he
    have HE:=ħ he
    clear he
    go_wp2_with (refine wpList_load_mid rfl 34 _ rfl (bk AC) (qP AC+k * 8) rfl [ι i,ι g,ι u,.string s,.slice A1 n1 c1,ι d,ι e,.bool f] _ hr Tryz.underlying34 rfl jN ?_)
    refine ⟨⟨k+1,by omega,by go_num,fun j hj h2=>?_,Q0.out.alloc Q0.out.size _⟩,by simp[intOf];omega⟩
    by_cases hjk:j=k
    ·subst hjk;rw[←HI.out];exact HE.out
    ·exact HN.out j (by omega) h2
  ·have hlt':¬ (k:Int)<lc.length:=by omega
   have hk3:k=lc.length:=by omega
   subst hk3
   clear hb
   go_wp2_with fail
   go_ret
   exact ⟨by rw[Ar (key:=fun a:Ca=>a.c.call) (fun j hj=>HN.out j hj hj)];rfl,Q0.out⟩
theorem EP (n:Int)(w:World):Calls Tryz.prog 87 #[ι n] w (jr (zQ n 1) w):=by
 unfold zQ Qo
 by_cases h1:1≤n
 ·have d1:decide (1≤n)=true:=by simpa using h1
  by_cases h2:n≤1099511627776
  ·have d2:decide (n≤1099511627776)=true:=by simpa using h2
   go_enter Tryz.func87,Tryz.ntmps87
   go_wp2_with fail
   go_ret
   first | exact ⟨rfl,rfl⟩ | (refine ⟨?_,rfl⟩;rw[d1,d2];rfl)
  ·have d2:decide (n≤1099511627776)=false:=by simpa using h2
   go_enter Tryz.func87,Tryz.ntmps87
   go_wp2_with fail
   go_ret
   first | exact ⟨rfl,rfl⟩ | (refine ⟨?_,rfl⟩;rw[d1,d2];rfl)
 ·have d1:decide (1≤n)=false:=by simpa using h1
  go_enter Tryz.func87,Tryz.ntmps87
  go_wp2_with fail
  go_ret
  first | exact ⟨rfl,rfl⟩ | (refine ⟨?_,rfl⟩;rw[d1,d2];rfl)
theorem z1A (n:Int)(w:World):Calls Tryz.prog 55 #[ι n] w (jr (zQ n 1) w):=by
 unfold zQ Qo
 by_cases h1:1≤n
 ·have d1:decide (1≤n)=true:=by simpa using h1
  by_cases h2:n≤1099511627776
  ·have d2:decide (n≤1099511627776)=true:=by simpa using h2
   go_enter Tryz.func55,Tryz.ntmps55
   go_wp2_with fail
   go_ret
   first | exact ⟨rfl,rfl⟩ | (refine ⟨?_,rfl⟩;rw[d1,d2];rfl)
  ·have d2:decide (n≤1099511627776)=false:=by simpa using h2
   go_enter Tryz.func55,Tryz.ntmps55
   go_wp2_with fail
   go_ret
   first | exact ⟨rfl,rfl⟩ | (refine ⟨?_,rfl⟩;rw[d1,d2];rfl)
 ·have d1:decide (1≤n)=false:=by simpa using h1
  go_enter Tryz.func55,Tryz.ntmps55
  go_wp2_with fail
  go_ret
  first | exact ⟨rfl,rfl⟩ | (refine ⟨?_,rfl⟩;rw[d1,d2];rfl)
theorem Uy (t:Ca)(B:Nat→Prop)(w:World)(h:RI w B t.A t.c.nodes)(hs:t.c.code.size≤100000)(hl:t.c.nodes.length≤100000) :
 Calls Tryz.prog 86 #[uy t] w (qX (z_ t.c) w):=by
 have KI:=ħ (zb.new w 34 #[ι t.c.call,ι 0,ι t.c.urg,.string t.c.code,.slice t.A t.c.nodes.length t.k,ι t.c.dist,ι t.c.since,.bool t.c.closed])
 have HB:=ħ ((Below.refl w.heap.size w).alloc (Nat.le_refl _) (.cells #[ι t.c.call,ι 0,ι t.c.urg,.string t.c.code,.slice t.A t.c.nodes.length t.k,ι t.c.dist,ι t.c.since,.bool t.c.closed] 34))
 have EG:=ħ (show Calls Tryz.prog 70 #[.agg #[ι t.c.call,ι 0,ι t.c.urg,.string t.c.code,.slice t.A t.c.nodes.length t.k,ι t.c.dist,ι t.c.since,.bool t.c.closed]] (w.alloc (.cells #[ι t.c.call,ι 0,ι t.c.urg,.string t.c.code,.slice t.A t.c.nodes.length t.k,ι t.c.dist,ι t.c.since,.bool t.c.closed] 34)) (qX (z_ t.c) (w.alloc (.cells #[ι t.c.call,ι 0,ι t.c.urg,.string t.c.code,.slice t.A t.c.nodes.length t.k,ι t.c.dist,ι t.c.since,.bool t.c.closed] 34))) from vY B t.c.call 0 t.c.urg t.c.dist t.c.since t.c.code t.A t.k t.c.nodes t.c.closed _ hs (h.alloc _) hl)
 have x0:=KI.out.facts
 clear h
 unfold uy
 go_enter Tryz.func86,Tryz.ntmps86
 go_wp2_with (go_at_call 70;((with_reducible refine EG.out.mono ?_);rintro e w2 ⟨rfl,hb⟩))
 go_ret
 exact ⟨rfl,HB.out.trans (hb.mono HB.out.size)⟩
def bA (t:Ca)(id:Int)(w:World)(e:Ending)(w':World):Prop:=e=.returned (uy ⟨j6 t.c id,t.A,t.k⟩)∧Below w.heap.size w w'
theorem Di (t:Ca)(id:Int)(w:World):Calls Tryz.prog 88 #[uy t,ι id] w (bA t id w):=by
 have HX:=ħ ((zb.new w 34 (χ t.c t.A t.k)).alloc (.cells κ 34))
 have HY:=ħ (show zb ((w.alloc (.cells (χ t.c t.A t.k) 34)).alloc (.cells κ 34)) (w.heap.size+1) 34 κ by
  have:=zb.new (w.alloc (.cells (χ t.c t.A t.k) 34)) 34 κ
  simpa using this)
 have HB:=ħ (((Below.refl w.heap.size w).alloc (Nat.le_refl _) (.cells (χ t.c t.A t.k) 34)).alloc (by simp) (.cells κ 34))
 unfold uy
 go_enter Tryz.func88,Tryz.ntmps88
 go_upto_region 1 with fail
 generalize (w.alloc _).alloc _=W at *
 have x0:=HX.out.facts
 have qx:=ħ (show zb ((W.setCell ⟨w.heap.size,1,none⟩ (ι id)).setCell ⟨w.heap.size,7,none⟩ (.bool false)) w.heap.size 34 #[ι t.c.call,ι id,ι t.c.urg,.string t.c.code,.slice t.A t.c.nodes.length t.k,ι t.c.dist,ι t.c.since,.bool false] by
  have:=(HX.out.set_ 1 (ι id)).set_ 7 (.bool false);simpa using this)
 have RF:=ħ ((HY.out.far (p:=⟨w.heap.size,1,none⟩) (by simp) (ι id)).far (p:=⟨w.heap.size,7,none⟩) (by simp) (.bool false))
 have HB3:=ħ ((HB.out.setCell (p:=⟨w.heap.size,1,none⟩) (Nat.le_refl _) (ι id)).setCell (p:=⟨w.heap.size,7,none⟩) (Nat.le_refl _) (.bool false))
 go_upto_region 2 with fail
 generalize (W.setCell _ _).setCell _ _=W3 at *
 clear x0 HX HY HB
 have x0:=qx.out.facts
 go_wp2_with (refine z8 rfl (.tmp 4) (.tmp 8) 34 rfl (w.heap.size+1) 34 _ #[ι t.c.call,ι id,ι t.c.urg,.string t.c.code,.slice t.A t.c.nodes.length t.k,ι t.c.dist,ι t.c.since,.bool false] _ 8 88 jM rfl rfl rfl RF.out rfl (by intro u hu;simp at hu;rcases hu with rfl | rfl | rfl | rfl | rfl | rfl | rfl | rfl <;> rfl) ?_;intro w8 zW zI yL)
 refine bodyPost_ret (results_cell_row (p:=4) (ty:=34) Tryz.results88 _ w8 (w.heap.size+1) 34 #[ι t.c.call,ι id,ι t.c.urg,.string t.c.code,.slice t.A t.c.nodes.length t.k,ι t.c.dist,ι t.c.since,.bool false] (0,0) _ rfl zW Tryz.underlying34 rfl jN) rfl ?_
 exact ⟨rfl,HB3.out.trans (zI.below HB3.out.size (fun k hk e=>by omega))⟩
theorem VZ {a b:List Int}:(zT a b).length=a.length↔Jq a b=true:=by
 unfold zT Jq
 rw[List.all_eq_true]
 constructor
 ·intro h x hx
  have:=List.length_filter_eq_length_iff.1 h x hx
  exact this
 ·intro h
  exact List.length_filter_eq_length_iff.2 h
theorem AV (B B2:Nat→Prop)(A A2:Option Addr)(c c2:Nat)(a b:List Int)(w:World)(h:RI w B A a)(h2:RI w B2 A2 b)(hla:a.length≤100000)(hlb:b.length≤100000) :
 Calls Tryz.prog 93 #[.slice A a.length c,.slice A2 b.length c2] w (qX (Jq a b) w):=by
 have H:=ħ (Jl (fun _=>True) A A2 c c2 a b w (h.more (fun _ _=>trivial)) (h2.more (fun _ _=>trivial)) hla hlb)
 have HS:=ħ (VZ (a:=a) (b:=b))
 have hle:=(QI a b).length_le
 clear h h2
 go_enter Tryz.func93,Tryz.ntmps93
 go_wp2_with (go_at_call 96;((with_reducible refine H.out.mono ?_);rintro e w2 ⟨A3,c3,rfl,ho,hb⟩))
 go_ret
 have e:(((zT a b).length:Int) == (a.length:Int))=Jq a b:=by
  rw[Bool.eq_iff_iff,←HS.out,beq_iff_eq]
  omega
 exact ⟨by rw[←e];rfl,hb⟩
theorem He (a:Xa)(w:World):Calls Tryz.prog 56 #[BJ a] w (qX (zx a.x) w):=by
 obtain ⟨x,An,Ac,Au,cn,cc,cu⟩:=a
 have H:=ħ fun (W:World)=>iq x.id x.urg x.dist x.since x.merged x.code An Ac Au x.nodes.length x.calls.length x.units.length cn cc cu x.closed W
 have HO:=ħ (show zx x=(decide (x.merged=0) && !x.closed) from rfl)
 have HB:=ħ ((Below.refl w.heap.size w).alloc (Nat.le_refl _) (.cells (Yz ⟨x,An,Ac,Au,cn,cc,cu⟩).toArray 48))
 have HX:=ħ (zb.new w 48 (Yz ⟨x,An,Ac,Au,cn,cc,cu⟩).toArray)
 unfold Yz at *
 have x0:=HX.out.facts
 unfold BJ
 simp only
 rw[HO.out]
 generalize (decide (x.merged=0) && !x.closed)=q at *
 go_enter Tryz.func56,Tryz.ntmps56
 go_wp2_with (go_at_call 100;((with_reducible refine (H.out _).mono ?_);rintro e w2 ⟨rfl,hb⟩))
 go_ret
 exact ⟨rfl,HB.out.trans (hb.mono HB.out.size)⟩
section
variable {α:Type} (key:α→Int)
def yh (x:α)(acc:List α × Bool)(y:α):List α × Bool:=
 let acc1:=if acc.2=false∧key x≤key y then (acc.1 ++ [x],true) else acc
 if key y=key x then acc1 else (acc1.1 ++ [y],acc1.2)
def yj (l:List α)(x:α):List α:=let r:=l.foldl (yh key x) ([],false);if r.2=true then r.1 else r.1 ++ [x]
theorem DZ (x:α)(acc:List α × Bool)(y:α):(yh key x acc y).1.length≤acc.1.length+2:=by
 unfold yh
 dsimp only
 split <;> split <;> simp
theorem XC {x y:α}{acc:List α × Bool}(c1:acc.2=false∧key x≤key y)(c2:key y=key x):yh key x acc y=(acc.1 ++ [x],true):=by
 unfold yh;dsimp only;rw[if_pos c2,if_pos c1]
theorem XI {x y:α}{acc:List α × Bool}(c1:acc.2=false∧key x≤key y)(c2:¬ key y=key x):yh key x acc y=(acc.1 ++ [x] ++ [y],true):=by
 unfold yh;dsimp only;rw[if_neg c2,if_pos c1]
theorem Kg {x y:α}{acc:List α × Bool}(c1:¬ (acc.2=false∧key x≤key y))(c2:key y=key x):yh key x acc y=acc:=by
 unfold yh;dsimp only;rw[if_pos c2,if_neg c1]
theorem Q6 {x y:α}{acc:List α × Bool}(c1:¬ (acc.2=false∧key x≤key y))(c2:¬ key y=key x):yh key x acc y=(acc.1 ++ [y],acc.2):=by
 unfold yh;dsimp only;rw[if_neg c2,if_neg c1]
theorem Gi (x:α)(acc:List α × Bool)(z y:α)(h:y∈(yh key x acc z).1):y∈acc.1∨y=x∨y=z:=by
 by_cases c1:acc.2=false∧key x≤key z <;> by_cases c2:key z=key x
 ·rw[XC key c1 c2] at h;simp at h;rcases h with h | h <;> simp[h]
 ·rw[XI key c1 c2] at h;simp at h;rcases h with h | h | h <;> simp[h]
 ·rw[Kg key c1 c2] at h;exact .inl h
 ·rw[Q6 key c1 c2] at h;simp at h;rcases h with h | h <;> simp[h]
theorem U8 (x:α):∀ (l:List α) (acc:List α × Bool),(l.foldl (yh key x) acc).1.length≤acc.1.length+2 * l.length
 | [],acc=>by simp
 | y :: l,acc=>by
  have h1:=U8 x l (yh key x acc y)
  have h2:=DZ key x acc y
  rw[List.foldl_cons,List.length_cons]
  omega
theorem Js (x:α):∀ (l:List α) (acc:List α × Bool) (y:α),y∈(l.foldl (yh key x) acc).1→y∈acc.1∨y=x∨y∈l
 | [],acc,y,h=>.inl h
 | z :: l,acc,y,h=>by
  rcases Js x l _ y h with h1 | h1 | h1
  ·rcases Gi key x acc z y h1 with h2 | h2 | h2
   ·exact .inl h2
   ·exact .inr (.inl h2)
   ·exact .inr (.inr (by rw[h2];simp))
  ·exact .inr (.inl h1)
  ·exact .inr (.inr (List.mem_cons_of_mem _ h1))
theorem Yk (x:α):∀ (l:List α) (a:List α),(∀ y∈l,key x<key y)→l.foldl (yh key x) (a,true)=(a ++ l,true)
 | [],a,_=>by simp
 | y :: l,a,h=>by
  have h1:=h y (by simp)
  have e:yh key x (a,true) y=(a ++ [y],true):=Q6 key (by rintro ⟨h,_⟩;cases h) (by omega)
  rw[List.foldl_cons,e,Yk x l _ (fun z hz=>h z (by simp[hz]))]
  simp
theorem xI (x:α):∀ (l:List α) (a:List α),Asc key l→(let r:=l.foldl (yh key x) (a,false);if r.2=true then r.1 else r.1 ++ [x])=a ++ jF key l x
 | [],a,_=>by simp[jF]
 | y :: l,a,h=>by
  obtain ⟨h1,h2⟩:=List.pairwise_cons.1 h
  by_cases hk:key x≤key y
  ·by_cases he:key y=key x
   ·have e:yh key x (a,false) y=(a ++ [x],true):=XC key ⟨rfl,hk⟩ he
    rw[List.foldl_cons,e,Yk key x l _ (fun z hz=>by have:=h1 z hz;omega)]
    dsimp only
    rw[if_pos rfl]
    unfold jF
    have f1:(y :: l).filter (fun z=>decide (key z<key x))=[]:=by
     rw[List.filter_eq_nil_iff]
     intro z hz
     rcases List.mem_cons.1 hz with rfl | hz
     ·simp;omega
     ·have:=h1 z hz;simp;omega
    have f2:(y :: l).filter (fun z=>decide (key x<key z))=l:=by
     rw[List.filter_cons,if_neg (by simp;omega),List.filter_eq_self]
     intro z hz
     have:=h1 z hz;simp;omega
    rw[f1,f2];simp
   ·have e:yh key x (a,false) y=(a ++ [x] ++ [y],true):=XI key ⟨rfl,hk⟩ he
    rw[List.foldl_cons,e,Yk key x l _ (fun z hz=>by have:=h1 z hz;omega)]
    dsimp only
    rw[if_pos rfl]
    unfold jF
    have f1:(y :: l).filter (fun z=>decide (key z<key x))=[]:=by
     rw[List.filter_eq_nil_iff]
     intro z hz
     rcases List.mem_cons.1 hz with rfl | hz
     ·simp;omega
     ·have:=h1 z hz;simp;omega
    have f2:(y :: l).filter (fun z=>decide (key x<key z))=y :: l:=by
     rw[List.filter_eq_self]
     intro z hz
     rcases List.mem_cons.1 hz with rfl | hz
     ·simp;omega
     ·have:=h1 z hz;simp;omega
    rw[f1,f2];simp
  ·have e:yh key x (a,false) y=(a ++ [y],false):=Q6 key (fun h=>hk h.2) (by omega)
   rw[List.foldl_cons,e,xI x l _ h2]
   unfold jF
   rw[List.filter_cons,List.filter_cons,if_pos (by simp;omega),if_neg (by simp;omega)]
   simp
theorem u_ {l:List α}(h:Asc key l)(x:α):yj key l x=jF key l x:=by
 have:=xI key x l [] h
 rw[List.nil_append] at this
 exact this
theorem Ui {β:Type}(f:β→α)(l:List β)(x:β):(jF (fun a=>key (f a)) l x).map f=jF key (l.map f) (f x):=by
 unfold jF
 rw[List.map_append,List.map_cons,List.filter_map,List.filter_map]
 rfl
theorem VH {β:Type}(f:β→α){l:List β}(h:Asc key (l.map f)):Asc (fun a=>key (f a)) l:=by
 unfold Asc at h⊢
 rw[List.pairwise_map] at h
 exact h
theorem Vi (x:α)(l:List α){k:Nat}(hk:k<l.length):(l.take (k+1)).foldl (yh key x) ([],false)=yh key x ((l.take k).foldl (yh key x) ([],false)) l[k]:=by
 rw[List.take_succ_eq_append_getElem hk,List.foldl_append]
 rfl
end
end Go.Proofs.YtdhcjhfgibmhfaaGreatDoor
namespace Go.Own
open Go.RowKit
theorem Xy {w:World}{base:Nat}{e:TypeId}{size n:Nat}{v:Value}{xs:List Value}(h:w.ownsRow base e size v n xs){p:Addr}(hp:p.block<base)(u:Value):(w.setCell p u).ownsRow base e size v n xs:=
 h.kept (row:=some p.block) ⟨rfl,rfl,rfl,by simp,fun k hk hne=>Below.heap_setCell w p u k (fun e=>hne (by rw[e]))⟩ (by
  cases hv:v.ownBlock with
  | none=>exact .inl rfl
  | some k=>right;intro e;cases e;have:=(h.lt _ hv).1;omega)
end Go.Own
namespace Go.Proofs.YtdhcjhfgibmhfaaGreatDoor.Wr
open Go.RowKit Go.Own Go.Quo Go.Wire
theorem info5:(Tryz.prog.info? 5).map (fun i=>(i.zero,i.size,i.bytes))=some (some (.int .u8 0),1,1):=by kernel_rfl
abbrev bys (l:List Int):List Value:=l.map (Value.int .u8)
def WrP (w:World)(p:Nat)(out:List Int):Prop:=∃ A c,zb w p 112 #[.slice A out.length c]∧w.ownsRow (p+1) 5 1 (.slice A out.length c) out.length (bys out)
theorem WrP.below {w w':World}{p:Nat}{out:List Int}(h:WrP w p out)(hb:Below w.heap.size w w'):WrP w' p out:=by
 obtain ⟨A,c,h1,h2⟩:=h
 exact ⟨A,c,h1.below hb h1.lt,h2.kept (row:=none) ⟨hb.os,hb.tape,hb.output,hb.size,fun k hk _=>hb.block k hk⟩ (by cases (Value.slice A out.length c).ownBlock <;> simp)⟩
theorem WrP.alloc {w:World}{p:Nat}{out:List Int}(h:WrP w p out)(o:Obj):WrP (w.alloc o) p out:=by
 obtain ⟨A,c,h1,h2⟩:=h
 exact ⟨A,c,h1.alloc o,h2.alloc o⟩
theorem WrP.new (w:World):WrP (w.alloc (.cells #[.slice none 0 0] 112)) w.heap.size []:=⟨none,0,zb.new w 112 _,World.ownsRow_nil _ _ _ _⟩
theorem int_any (p:Nat)(n:Int)(out:List Int)(w:World)(hw:WrP w p out)(h0:-9223372036854775808≤n)(h1:n<9223372036854775808)(hl:out.length≤1000000000) :
 Calls Tryz.prog 76 #[.pointer (some ⟨p,0,none⟩),ι n] w (fun e w'=>e=.returned (.tuple #[])∧WrP w' p (out ++ z01 n)∧Below p w w'):=by
 have hz:=z0S h0 h1
 have hlen:=Sv h0 h1
 have hzl:=TG h0 h1
 have HE:=ħ (show z01 n=Rv (zig n) from rfl)
 generalize z01 n=en at *
 go_enter Tryz.func76,Tryz.ntmps76
 go_wp2_with fail
 generalize zig n=z at *
 clear hz
 go_loopw [4] (fun vu wr=>∃ (u:Nat) (o:List Int),vu=.int .u64 u∧u<18446744073709551616∧WrP wr p o∧o ++ Rv u=out ++ en∧Below p w wr) (fun u _=>(intOf u).toNat)
 case atStart=>exact ⟨z,out,rfl,hzl,hw,by rw[HE.out],Below.refl _ _⟩
 case round=>
  obtain ⟨u,o,rfl,hu,hwr,ho,hb⟩:=hrel
  have HO:=ħ ho
  have hol:o.length+(Rv u).length≤out.length+en.length:=by rw[←List.length_append,←List.length_append,ho];exact Nat.le_refl _
  clear ho
  obtain ⟨A,c,hk,hown⟩:=hwr
  obtain ⟨q0,q1,q2⟩:=hk.facts
  by_cases h:u<128
  ·have h':¬ (128:Int)≤u:=by omega
   have LH:IntKind.u8.wrap (u:Int)=u:=by rw[IntKind.wrap_u8'];omega
   go_wp2_with (at_builtin;refine ze _ rfl _ _ _ rfl (p+1) 5 _ 1 1 Tryz.underlying99 info5 rfl (by omega) (.slice A o.length c) o.length (bys o) rfl (hown.alloc _) _ (some ⟨wr.heap.size,0,none⟩) 1 1 [.int .u8 u] rfl (Reads.newS _ [.int .u8 u] 5 (0,0) 1 1 rfl _ rfl) (by simp[Value.oneCell']) (by simp only[maxLen];omega) (by omega) (by simp;omega) ?_;intro A4 c4 w4 Ri RG TT;have hk4:=(hk.alloc _).grown RG (by intro e;have:=(hown.lt p e.symm).1;omega);have r0:=hk4.facts)
   refine bodyPost_end (v:=.tuple #[]) (by simp[results,Tryz.results76,go_sem]) rfl ⟨rfl,?_,?_⟩
   ·rw[←HO.out,Rz h]
    refine ⟨A4,c4,?_,?_⟩
    ·have:=hk4.set_ 0 (.slice A4 (o.length+1) c4)
     simpa using this
    ·have:=Xy Ri (p:=⟨p,0,none⟩) (by simp) (.slice A4 (o.length+1) c4)
     simpa using this
   ·exact ((hb.alloc (Nat.le_of_lt (Nat.lt_of_lt_of_le q0 (Nat.le_refl _))) _).grown RG (by simp;omega) (fun g hg=>by have:=(hown.lt g hg).1;omega)).setCell (by simp) _
  ·have h':(128:Int)≤u:=by omega
   obtain ⟨lo,hlo⟩:∃ lo:Int,lo=((u % 128+128:Nat):Int):=⟨_,rfl⟩
   have LH:bits .or .u8 ((u:Int) % 256) 128=lo:=by rw[hlo,←z18 u,IntKind.wrap_u8']
   have HLo:=ħ hlo;clear hlo
   go_wp2_with (at_builtin;refine ze _ rfl _ _ _ rfl (p+1) 5 _ 1 1 Tryz.underlying99 info5 rfl (by omega) (.slice A o.length c) o.length (bys o) rfl (hown.alloc _) _ (some ⟨wr.heap.size,0,none⟩) 1 1 [.int .u8 lo] rfl (Reads.newS _ [.int .u8 lo] 5 (0,0) 1 1 rfl _ rfl) (by simp[Value.oneCell']) (by simp only[maxLen];omega) (by omega) (by simp;omega) ?_;intro A4 c4 w4 Ri RG TT;have hk4:=(hk.alloc _).grown RG (by intro e;have:=(hown.lt p e.symm).1;omega);have r0:=hk4.facts)
   have hsh:(u:Int) / 128=((u / 128:Nat):Int):=by omega
   refine ⟨⟨u / 128,o ++ [lo],congrArg _ hsh,by omega,?_,?_,?_⟩,by simp[intOf];omega⟩
   ·refine ⟨A4,c4,?_,?_⟩
    ·have:=hk4.set_ 0 (.slice A4 (o.length+1) c4)
     simpa using this
    ·have:=Xy Ri (p:=⟨p,0,none⟩) (by simp) (.slice A4 (o.length+1) c4)
     simpa using this
   ·rw[←HO.out,R_ h,HLo.out,List.append_assoc];rfl
   ·exact ((hb.alloc (Nat.le_of_lt (Nat.lt_of_lt_of_le q0 (Nat.le_refl _))) _).grown RG (by simp;omega) (fun g hg=>by have:=(hown.lt g hg).1;omega)).setCell (by simp) _
theorem RI.at_ {w:World}{B:Nat→Prop}{A:Option Addr}{l:List Int}(h:RI w B A l){k:Nat}(hk:k<l.length):w.cell? ⟨bk A,qP A+k,none⟩=some (ι (gd l k)):=
 (h.cell2 k (by omega) (by omega)).trans (by rw[qd hk];simp[List.getElem?_eq_getElem hk])
theorem z1z:(Tryz.prog.info? 5).map (·.size)=some 1:=by kernel_rfl
theorem PU (l:List Int):∀ v∈bys l,v.oneCell'=true:=ints_oneCell .u8 l
theorem encoded_any (p:Nat)(out:List Int)(w:World)(hw:WrP w p out)(hl:out.length≤1000000000) :
 Calls Tryz.prog 80 #[.pointer (some ⟨p,0,none⟩)] w (fun e w'=>∃ A c,e=.returned (.slice A out.length c)∧Reads w' (w.heap.size≤·) 1 A out.length (bys out)∧Below w.heap.size w w'):=by
 obtain ⟨A,c,hk,hown⟩:=hw
 have hr:=Reads.of_own hown
 have hmk:=z0O (P:=Tryz.prog) 99 5 (.int .u8 0) 1 Tryz.underlying99 info5 rfl out.length (by omega) (by omega)
 have hcp1:=z0Q (P:=Tryz.prog) 99 99 3 5 Tryz.underlying99 z1z (c:=c) (d:=out.length) 5 (Fu (.int .u8 0) out.length) hr (PU out) (z13 _ _) w.heap.size rfl
 have q0:=hk.facts
 clear hown hr
 go_enter Tryz.func80,Tryz.ntmps80
 go_wp2
 go_ret
 refine ⟨_,_,rfl,?_,(Below.refl _ _).alloc (Nat.le_refl _) _⟩
 have:=Reads.new w (bys out) 5 (0,0)
 simp only[List.length_map] at this
 exact this.more (fun k hk=>by omega)
theorem FN (l:List Int)(k:Nat)(hk:k<l.length):(l.take (k+1)).flatMap z01=(l.take k).flatMap z01 ++ z01 (gd l k):=by
 rw[List.take_succ_eq_append_getElem hk,qd hk,List.flatMap_append,List.flatMap_cons,List.flatMap_nil,List.append_nil]
theorem flat_len (l:List Int)(h:∀ x∈l,-9223372036854775808≤x∧x<9223372036854775808):(l.flatMap z01).length≤10 * l.length:=by
 induction l with
 | nil=>simp
 | cons a r ih=>
  have h1:=Sv (h a (by simp)).1 (h a (by simp)).2
  have h2:=ih (fun x hx=>h x (by simp[hx]))
  simp only[List.flatMap_cons,List.length_append,List.length_cons];omega
theorem wints_any (p:Nat)(A:Option Addr)(c:Nat)(l out:List Int)(w:World)(hw:WrP w p out)(hr:RI w (· < p) A l)(hx:∀ x∈l,-9223372036854775808≤x∧x<9223372036854775808)(hm:l.length≤1000)(hl:out.length≤900000000) :
 Calls Tryz.prog 78 #[.pointer (some ⟨p,0,none⟩),.slice A l.length c] w (fun e w'=>e=.returned (.tuple #[])∧WrP w' p (out ++ encIs l)∧Below p w w'):=by
 have pA:=hr.plain (by omega)
 have HL:=ħ (int_any p (l.length:Int) out w hw (by omega) (by omega) (by omega))
 have HX:=ħ hx
 clear hx
 have hle:(z01 (l.length:Int)).length≤10:=Sv (by omega) (by omega)
 have HE:=ħ (show encIs l=z01 (l.length:Int) ++ l.flatMap z01 from rfl)
 generalize z01 (l.length:Int)=el at *
 go_enter Tryz.func78,Tryz.ntmps78
 go_wp2_with (go_at_call 76;((with_reducible refine HL.out.mono ?_);rintro e w1 ⟨rfl,hw1,hb1⟩))
 go_loopw [12] (fun vi wr=>∃ k:Nat,k≤l.length∧vi=ι k∧WrP wr p (out ++ el ++ (l.take k).flatMap z01)∧Below p w wr) (fun i _=>l.length - (intOf i).toNat)
 case atStart=>exact ⟨0,Nat.zero_le _,rfl,by simpa using hw1,hb1⟩
 case round=>
  obtain ⟨k,hk,rfl,hwr,hb⟩:=hrel
  have hrr:=hr.below hb (fun _ h=>h)
  by_cases hlt:k<l.length
  ·have hlt':(k:Int)<l.length:=by omega
   have hix:=fun W=>JI pA c k hlt W
   have hcell:=Wr.RI.at_ hrr hlt
   have hg:=HX.out (gd l k) (by rw[qd hlt];exact List.getElem_mem hlt)
   have hfl:((l.take k).flatMap z01).length≤10 * l.length:=by
    have:=flat_len (l.take k) (fun x hx=>HX.out x (List.mem_of_mem_take hx))
    have h2:(l.take k).length≤l.length:=by simp;omega
    omega
   have HI:=ħ (int_any p (gd l k) _ wr hwr hg.1 hg.2 (by simp only[List.length_append];omega))
   rw[List.append_assoc,←FN l k hlt] at HI
   go_wp2_with (go_at_call 76;((with_reducible refine HI.out.mono ?_);rintro e w2 ⟨rfl,hw2,hb2⟩))
   exact ⟨⟨k+1,by omega,by go_num,by simpa using hw2,hb.trans hb2⟩,by simp[intOf];omega⟩
  ·have hge:¬ ((k:Int)<l.length):=by omega
   have HK:Hid (l.take k=l):=List.take_of_length_le (by omega)
   go_wp2_with fail
   refine bodyPost_end (v:=.tuple #[]) (by simp[results,Tryz.results78,go_sem]) rfl ⟨rfl,?_,hb⟩
   rw[HK.out] at hwr
   rw[HE.out]
   simpa using hwr
end Go.Proofs.YtdhcjhfgibmhfaaGreatDoor.Wr
