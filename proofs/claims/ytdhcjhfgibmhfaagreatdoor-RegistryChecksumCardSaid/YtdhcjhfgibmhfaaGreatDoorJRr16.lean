import Derived.Test.YtdhcjhfgibmhfaaGreatDoorJG20
import Derived.Test.YtdhcjhfgibmhfaaGreatDoorJStBlk
import Derived.Test.YtdhcjhfgibmhfaaGreatDoorJG4
import Derived.Deep.RegionHeld
set_option linter.unusedVariables false
set_option linter.unusedSimpArgs false
set_option maxRecDepth 10000
set_option maxHeartbeats 8000000
namespace Go.Proofs.YtdhcjhfgibmhfaaGreatDoor
open Go.RowKit Go.Own Go.Quo Go.Inc
structure B4 (w wr:World) (c0:Array Value) (px py:Nat) (c1 c2:Array Value):Prop where
 n:B2 w wr c0
 x:zb wr px 48 c1
 y:zb wr py 48 c2
theorem B4.below {w wr w2:World}{c0 c1 c2:Array Value}{px py:Nat}(h:B4 w wr c0 px py c1 c2)(hb:Below wr.heap.size wr w2):B4 w w2 c0 px py c1 c2:=
 ⟨h.n.below hb,h.x.below hb h.x.lt,h.y.below hb h.y.lt⟩
theorem dn (v:Bv)(id into:Int)(n:Nat)(B:Nat→Prop)(w:World)(hG:OkG w B v n) :
 Calls Tryz.prog 46 #[YW v,ι id,ι into] w (Je (zM v.bk id into) B w):=by
 have h:=hG.toOk
 have HG:=ħ hG
 have HV:=ħ h
 have y8:=ħ (B2.new w (β v))
 have HFin:=ħ fun (r:Int) (W:World) (hb:Below w.heap.size w W) (hr:zM v.bk id into=(v.bk,r))=>(show Je (zM v.bk id into) B w (.returned (.tuple #[YW v,ι r])) W from ⟨v,by rw[hr],HV.out.ok.below0 hb,by rw[hr],hb⟩)
 have ZX:=ħ fun (W:World) (hb:Below w.heap.size w W)=>Z4 v (fun k=>B k) id W (HV.out.ok.below0 hb) (by have:=HV.out.nL;omega)
 have nK:=ħ fun (W:World) (hb:Below w.heap.size w W)=>Z4 v (fun k=>B k) into W (HV.out.ok.below0 hb) (by have:=HV.out.nL;omega)
 clear h hG
 go_enter Tryz.func46,Tryz.ntmps46
 go_upto_region 1 with fail
 generalize (w.alloc _).alloc _=W1 at *
 have x0:=y8.out.b.facts
 by_cases h0:id=into
 ·have Ml:(id == into)=true:=by simpa using h0
  have HE:=ħ (show zM v.bk id into=(v.bk,1) by unfold zM;rw[if_pos h0])
  go_wp2_with ((refine z8 rfl (.tmp 6) (.tmp 17) 29 rfl (w.heap.size+1) 29 _ (β v) _ 2 48 zy rfl rfl rfl y8.out.z rfl zq ?_;intro w8 zW zI yL))
  refine bodyPost_ret (za (p:=6) (u:=7) (ty:=29) Tryz.results46 _ _ (w.heap.size+1) 29 (β v) (0,0) _ rfl zW Tryz.underlying29 rfl zm) rfl ?_
  exact HFin.out 1 _ (y8.out.be.trans (zI.below y8.out.be.size (fun j hj e=>by have e2:j=w.heap.size+1:=e;omega))) HE.out
 ·have Ml:(id == into)=false:=by simpa using h0
  have VV:=ħ h0
  clear h0
  go_upto_region 3 with fail
  clear Ml
  have HK:=ħ fun (W':World) (hb:Below W1.heap.size W1 W')=>(show (W'.cell? ⟨w.heap.size,0,none⟩=some (.slice v.AL v.la.length v.cL)∧W'.cell? ⟨w.heap.size,1,none⟩=some (.slice v.AC v.lc.length v.cC)) from by
   have h1:=(y8.out.below hb).b
   exact ⟨h1.cell 0,h1.cell 1⟩)
  have HA:=ħ fun (W:World) (hb:Below W1.heap.size W1 W)=>ZX.out W (y8.out.be.trans (hb.mono y8.out.be.size))
  have HB:=ħ fun (W:World) (hb:Below W1.heap.size W1 W)=>nK.out W (y8.out.be.trans (hb.mono y8.out.be.size))
  have K_:=ħ fun (W:World) (hb:Below W1.heap.size W1 W)=>y8.out.below hb
  clear ZX nK x0
  have K0:=HK.out _ (Below.refl _ W1).drew
  go_cut [8,9] (fun a c wx=>a=ι (GI (fun a:Xa=>a.x.id) v.la id)∧c=ι (GI (fun a:Xa=>a.x.id) v.la into)∧B2 w wx (β v))
  case first=>
   first | (go_region_held (fun W'=>(W'.cell? ⟨w.heap.size,0,none⟩=some (.slice v.AL v.la.length v.cL)∧W'.cell? ⟨w.heap.size,1,none⟩=some (.slice v.AC v.lc.length v.cC))) (first | assumption | exact K0) (first
    | (go_at_call 20;((with_reducible refine (HA.out _ ((Below.refl W1.heap.size W1).drew)).mono ?_);rintro e w2 ⟨rfl,hb2⟩;have Dj:=((Below.refl W1.heap.size W1).drew).trans hb2;have K2:=HK.out _ Dj;clear hb2))
    | (go_at_call 20;((with_reducible refine (HB.out _ Dj).mono ?_);rintro e w3 ⟨rfl,hb3⟩;have YB:=Dj.trans (hb3.mono Dj.size);have K3:=HK.out _ YB;clear hb3)))) | fail
   all_goals
    go_wp2_with fail
    go_meet
    case rel=>exact ⟨rfl,rfl,K_.out _ YB⟩
  case rest=>
   obtain ⟨rfl,rfl,hn1⟩:=hcut
   have qa:=ħ hn1
   clear hn1 HK HA HB K_ K0
   have x0:=qa.out.b.facts
   rcases qH (fun a:Xa=>a.x.id) v.la id with ⟨i,hi,hlt,hg⟩ | ⟨hi,hg⟩
   ·rw[hi]
    rcases qH (fun a:Xa=>a.x.id) v.la into with ⟨j,hj,aH,hgj⟩ | ⟨hj,hgj⟩
    ·rw[hj]
     obtain ⟨x,hx⟩:∃ x,x=v.la[i]:=⟨_,rfl⟩
     obtain ⟨y,hy⟩:∃ y,y=v.la[j]:=⟨_,rfl⟩
     have HX:=ħ (show zw v.bk.L id=some x.x by rw[hx];exact QD hlt hg)
     have HY:=ħ (show zw v.bk.L into=some y.x by rw[hy];exact QD aH hgj)
     have Xx:=ħ (HV.out.ok.xl x (by rw[hx];exact List.getElem_mem hlt))
     have Ja:=ħ (HV.out.ok.xl y (by rw[hy];exact List.getElem_mem aH))
     have hxl:=yO (zg.vL HG.out.g x.x (zi HX.out).1).1
     have hyl:=yO (zg.vL HG.out.g y.x (zi HY.out).1).1
     have hp:=HV.out.ok.rl.plain (by omega)
     have hix:=fun W=>JZ hp v.cL i hlt W
     have OD:=fun W=>JZ hp v.cL j aH W
     go_upto_region 6 with fail
     have jh:=ħ fun (W':World) (hf:Fr (fun _=>False) wc W')=>(show (W'.cell? ⟨w.heap.size,0,none⟩=some (.slice v.AL v.la.length v.cL)∧W'.cell? ⟨w.heap.size,1,none⟩=some (.slice v.AC v.lc.length v.cC))∧(_∧_∧_∧_∧_∧_∧_∧_∧_∧_)∧(_∧_∧_∧_∧_∧_∧_∧_∧_∧_) from
      ⟨⟨(qa.out.b.fr hf (fun e=>e)).cell 0,(qa.out.b.fr hf (fun e=>e)).cell 1⟩,jA (HV.out.ok.below0 (qa.out.be.trans (hf.below (B:=w.heap.size) qa.out.be.size (fun _ _ e=>e)))).rl hlt hx,jA (HV.out.ok.below0 (qa.out.be.trans (hf.below (B:=w.heap.size) qa.out.be.size (fun _ _ e=>e)))).rl aH hy⟩)
     clear hi hg hj hgj hx hy x0
     go_cut [10,11] (fun a c wx=>∃ px py,a=.pointer (some ⟨px,0,none⟩)∧c=.pointer (some ⟨py,0,none⟩)∧px≠py∧wc.heap.size≤px∧wc.heap.size≤py∧zb wx px 48 (ξ x.x x.An x.cn x.Ac x.cc x.Au x.cu)∧zb wx py 48 (ξ y.x y.An y.cn y.Ac y.cc y.Au y.cu)∧Fr (fun _=>False) wc wx)
     case first=>
      refine qW (S:=fun w'=>Fr (fun _=>False) wc w') #[{ dst:=some 31,op:=Op.fieldAddr 29 (Operand.tmp 3) 0,type:=0,pos:= "ref.go:199",after:=#[],guard:=none },{ dst:=some 32,op:=Op.load 26 (Operand.tmp 31),type:=26,pos:= "ref.go:199",after:=#[{ on:=0,ground:=Ground.data }],guard:=none },{ dst:=some 33,op:=Op.move (Operand.tmp 8),type:=3,pos:= "ref.go:199",after:=#[],guard:=none },{ dst:=some 34,op:=Op.indexAddr 26 (Operand.tmp 32) (Operand.tmp 33),type:=0,pos:= "ref.go:199",after:=#[{ on:=1,ground:=Ground.data },{ on:=2,ground:=Ground.data }],guard:=none },{ dst:=some 35,op:=Op.load 48 (Operand.tmp 34),type:=48,pos:= "ref.go:199",after:=#[{ on:=3,ground:=Ground.data }],guard:=none },{ dst:=some 36,op:=Op.fieldAddr 29 (Operand.tmp 3) 0,type:=0,pos:= "ref.go:199",after:=#[{ on:=12,ground:=Ground.gcOnly Go.Departure.lateStores }],guard:=none },{ dst:=some 37,op:=Op.load 26 (Operand.tmp 36),type:=26,pos:= "ref.go:199",after:=#[{ on:=5,ground:=Ground.data },{ on:=12,ground:=Ground.gcOnly Go.Departure.lateStores }],guard:=none },{ dst:=some 38,op:=Op.move (Operand.tmp 9),type:=3,pos:= "ref.go:199",after:=#[{ on:=12,ground:=Ground.gcOnly Go.Departure.lateStores }],guard:=none },{ dst:=some 39,op:=Op.indexAddr 26 (Operand.tmp 37) (Operand.tmp 38),type:=0,pos:= "ref.go:199",after:=#[{ on:=6,ground:=Ground.data },{ on:=7,ground:=Ground.data },{ on:=12,ground:=Ground.gcOnly Go.Departure.lateStores }],guard:=none },{ dst:=some 40,op:=Op.load 48 (Operand.tmp 39),type:=48,pos:= "ref.go:199",after:=#[{ on:=8,ground:=Ground.data },{ on:=12,ground:=Ground.gcOnly Go.Departure.lateStores }],guard:=none },{ dst:=some 10,op:=Op.alloc 48,type:=0,pos:= "ref.go:199",after:=#[],guard:=none },{ dst:=some 11,op:=Op.alloc 48,type:=0,pos:= "ref.go:199",after:=#[],guard:=none },{ dst:=none,op:=Op.store 48 (Operand.tmp 10) (Operand.tmp 35),type:=0,pos:= "ref.go:199",after:=#[{ on:=10,ground:=Ground.data },{ on:=4,ground:=Ground.data },{ on:=0,ground:=Ground.phase },{ on:=1,ground:=Ground.phase },{ on:=2,ground:=Ground.phase },{ on:=3,ground:=Ground.phase },{ on:=4,ground:=Ground.phase },{ on:=5,ground:=Ground.textOnly Go.Departure.lateStores },{ on:=6,ground:=Ground.textOnly Go.Departure.lateStores },{ on:=7,ground:=Ground.textOnly Go.Departure.lateStores },{ on:=8,ground:=Ground.textOnly Go.Departure.lateStores },{ on:=9,ground:=Ground.textOnly Go.Departure.lateStores },{ on:=10,ground:=Ground.phase },{ on:=11,ground:=Ground.phase }],guard:=none }] { dst:=none,op:=Op.store 48 (Operand.tmp 11) (Operand.tmp 40),type:=0,pos:= "ref.go:199",after:=#[{ on:=11,ground:=Ground.data },{ on:=9,ground:=Ground.data },{ on:=12,ground:=Ground.chain },{ on:=0,ground:=Ground.phase },{ on:=1,ground:=Ground.phase },{ on:=2,ground:=Ground.phase },{ on:=3,ground:=Ground.phase },{ on:=4,ground:=Ground.phase },{ on:=5,ground:=Ground.phase },{ on:=6,ground:=Ground.phase },{ on:=7,ground:=Ground.phase },{ on:=8,ground:=Ground.phase },{ on:=9,ground:=Ground.phase },{ on:=10,ground:=Ground.phase },{ on:=11,ground:=Ground.phase },{ on:=12,ground:=Ground.phase }],guard:=none } (by rfl) (by kernel_rfl) (by kernel_rfl) ?_ (fun hHeld=>?_)
      ·exact (Fr.refl _ _).drew
      have HR:=ħ hHeld
      generalize wc.drew=wx at *
      refine wpAnyH_take (i:=0) (v:=?v0) rfl (by kernel_rfl) (by kernel_rfl) (by kernel_rfl) (fun _ _ _ h=>h) (Or.inl ⟨by rfl,?hy0⟩) hHeld ?rest0
      case hy0=>
       intro w0 hSw
       obtain ⟨⟨e0,e1⟩,⟨e2,e3,e4,e5,e6,e7,e8,e9,e10,e11⟩,f2,f3,f4,f5,f6,f7,f8,f9,f10,f11⟩:=jh.out w0 hSw
       go_simp
       try with_reducible rfl
      try simp only[Act.put,σa,σb,σc]
      refine wpAnyH_take (i:=1) (v:=?v1) rfl (by kernel_rfl) (by kernel_rfl) (by kernel_rfl) (fun _ _ _ h=>h) (Or.inl ⟨by rfl,?hy1⟩) hHeld ?rest1
      case hy1=>
       intro w0 hSw
       obtain ⟨⟨e0,e1⟩,⟨e2,e3,e4,e5,e6,e7,e8,e9,e10,e11⟩,f2,f3,f4,f5,f6,f7,f8,f9,f10,f11⟩:=jh.out w0 hSw
       go_simp
       try with_reducible rfl
      try simp only[Act.put,σa,σb,σc]
      refine wpAnyH_take (i:=2) (v:=?v2) rfl (by kernel_rfl) (by kernel_rfl) (by kernel_rfl) (fun _ _ _ h=>h) (Or.inl ⟨by rfl,?hy2⟩) hHeld ?rest2
      case hy2=>
       intro w0 hSw
       obtain ⟨⟨e0,e1⟩,⟨e2,e3,e4,e5,e6,e7,e8,e9,e10,e11⟩,f2,f3,f4,f5,f6,f7,f8,f9,f10,f11⟩:=jh.out w0 hSw
       go_simp
       try with_reducible rfl
      try simp only[Act.put,σa,σb,σc]
      refine wpAnyH_take (i:=3) (v:=?v3) rfl (by kernel_rfl) (by kernel_rfl) (by kernel_rfl) (fun _ _ _ h=>h) (Or.inl ⟨by rfl,?hy3⟩) hHeld ?rest3
      case hy3=>
       intro w0 hSw
       obtain ⟨⟨e0,e1⟩,⟨e2,e3,e4,e5,e6,e7,e8,e9,e10,e11⟩,f2,f3,f4,f5,f6,f7,f8,f9,f10,f11⟩:=jh.out w0 hSw
       go_simp
       try with_reducible rfl
      try simp only[Act.put,σa,σb,σc]
      refine wpAnyH_take (i:=4) (v:=?v4) rfl (by kernel_rfl) (by kernel_rfl) (by kernel_rfl) (fun _ _ _ h=>h) (Or.inl ⟨by rfl,?hy4⟩) hHeld ?rest4
      case hy4=>
       intro w0 hSw
       obtain ⟨⟨e0,e1⟩,⟨e2,e3,e4,e5,e6,e7,e8,e9,e10,e11⟩,f2,f3,f4,f5,f6,f7,f8,f9,f10,f11⟩:=jh.out w0 hSw
       go_simp
       try with_reducible rfl
      try simp only[Act.put,σa,σb,σc]
      refine wpAnyH_take (i:=5) (v:=?v5) rfl (by kernel_rfl) (by kernel_rfl) (by kernel_rfl) (fun _ _ _ h=>h) (Or.inl ⟨by rfl,?hy5⟩) hHeld ?rest5
      case hy5=>
       intro w0 hSw
       obtain ⟨⟨e0,e1⟩,⟨e2,e3,e4,e5,e6,e7,e8,e9,e10,e11⟩,f2,f3,f4,f5,f6,f7,f8,f9,f10,f11⟩:=jh.out w0 hSw
       go_simp
       try with_reducible rfl
      try simp only[Act.put,σa,σb,σc]
      refine wpAnyH_take (i:=6) (v:=?v6) rfl (by kernel_rfl) (by kernel_rfl) (by kernel_rfl) (fun _ _ _ h=>h) (Or.inl ⟨by rfl,?hy6⟩) hHeld ?rest6
      case hy6=>
       intro w0 hSw
       obtain ⟨⟨e0,e1⟩,⟨e2,e3,e4,e5,e6,e7,e8,e9,e10,e11⟩,f2,f3,f4,f5,f6,f7,f8,f9,f10,f11⟩:=jh.out w0 hSw
       go_simp
       try with_reducible rfl
      try simp only[Act.put,σa,σb,σc]
      refine wpAnyH_take (i:=7) (v:=?v7) rfl (by kernel_rfl) (by kernel_rfl) (by kernel_rfl) (fun _ _ _ h=>h) (Or.inl ⟨by rfl,?AY⟩) hHeld ?rest7
      case AY=>
       intro w0 hSw
       obtain ⟨⟨e0,e1⟩,⟨e2,e3,e4,e5,e6,e7,e8,e9,e10,e11⟩,f2,f3,f4,f5,f6,f7,f8,f9,f10,f11⟩:=jh.out w0 hSw
       go_simp
       try with_reducible rfl
      try simp only[Act.put,σa,σb,σc]
      refine wpAnyH_take (i:=8) (v:=?v8) rfl (by kernel_rfl) (by kernel_rfl) (by kernel_rfl) (fun _ _ _ h=>h) (Or.inl ⟨by rfl,?BQ⟩) hHeld ?rest8
      case BQ=>
       intro w0 hSw
       obtain ⟨⟨e0,e1⟩,⟨e2,e3,e4,e5,e6,e7,e8,e9,e10,e11⟩,f2,f3,f4,f5,f6,f7,f8,f9,f10,f11⟩:=jh.out w0 hSw
       go_simp
       try with_reducible rfl
      try simp only[Act.put,σa,σb,σc]
      refine wpAnyH_take (i:=9) (v:=?v9) rfl (by kernel_rfl) (by kernel_rfl) (by kernel_rfl) (fun _ _ _ h=>h) (Or.inl ⟨by rfl,?hy9⟩) hHeld ?rest9
      case hy9=>
       intro w0 hSw
       obtain ⟨⟨e0,e1⟩,⟨e2,e3,e4,e5,e6,e7,e8,e9,e10,e11⟩,f2,f3,f4,f5,f6,f7,f8,f9,f10,f11⟩:=jh.out w0 hSw
       go_simp
       try with_reducible rfl
      try simp only[Act.put,σa,σb,σc]
      refine wpAnyH_ready (rs:=[10,11]) (by kernel_rfl) (by simp) ?_
      refine AllReadyH.cons rfl (fun K hK=>?_) ?_
      ·skip
       go_simp
       have hbn:=zb.new wx 48 ζ
       have hge:=HR.out.size
       have hrn:=HR.out.alloc (.cells ζ 48)
       try have hne:=HZ2.out.lt
       try have ho2:=HZ2.out.alloc (.cells ζ 48)
       generalize wx.alloc _=wz at *
       generalize wx.heap.size=gz at *
       have HZ:=ħ hbn
       have HG:=ħ hge
       try have jy:=ħ hne
       try replace HZ2:=ħ ho2
       replace HR:=ħ hrn
       clear hbn hge hrn
       try clear hne ho2
       obtain ⟨wx,hwx⟩:∃ wx,wx=wz:=⟨_,rfl⟩
       rw[←hwx] at HR⊢
       try rw[←hwx] at HZ
       try rw[←hwx] at HZ2
       clear hwx
       refine hK.out _ _ ?_ (fun hHeld=>?_)
       ·exact HR.out
       clear hK K
       try simp only[Act.put,σa,σb,σc]
       refine wpAnyH_ready (rs:=[11]) (by kernel_rfl) (by simp) ?_
       refine AllReadyH.cons rfl (fun K hK=>?_) ?_
       ·skip
        go_simp
        have hbn:=zb.new wx 48 ζ
        have hge:=HR.out.size
        have hrn:=HR.out.alloc (.cells ζ 48)
        try have hne:=HZ.out.lt
        try have ho2:=HZ.out.alloc (.cells ζ 48)
        generalize wx.alloc _=wz at *
        generalize wx.heap.size=gy at *
        have HZ2:=ħ hbn
        have HG2:=ħ hge
        try have jy:=ħ hne
        try replace HZ:=ħ ho2
        replace HR:=ħ hrn
        clear hbn hge hrn
        try clear hne ho2
        obtain ⟨wx,hwx⟩:∃ wx,wx=wz:=⟨_,rfl⟩
        rw[←hwx] at HR⊢
        try rw[←hwx] at HZ
        try rw[←hwx] at HZ2
        clear hwx
        refine hK.out _ _ ?_ (fun hHeld=>?_)
        ·exact HR.out
        clear hK K
        try simp only[Act.put,σa,σb,σc]
        refine wpAnyH_ready (rs:=[12]) (by kernel_rfl) (by simp) ?_
        refine AllReadyH.cons rfl (fun K hK=>?_) ?_
        ·skip
         refine zf _ (by rfl) (.tmp 10) (.tmp 35) 48 (by rfl) _ 48 _ (ξ x.x x.An x.cn x.Ac x.cc x.Au x.cu) _ 10 136 zJ (by rfl) (by rfl) (by rfl) HZ.out (by rfl) (zH (by simp[Value.oneCell'])) ?_
         intro wz hbz hfz hsz
         replace HR:=ħ (show Fr (fun _=>False) wc wz from ⟨hfz.os.trans HR.out.os,hfz.tape.trans HR.out.tape,hfz.output.trans HR.out.output,Nat.le_trans HR.out.size hfz.size,fun k hk _=>(hfz.block k (Nat.lt_of_lt_of_le hk HR.out.size) (by have:=HG.out;omega)).trans (HR.out.block k hk (fun e=>e))⟩)
         replace HZ2:=ħ (HZ2.out.fr hfz (fun e=>by have e2:gy=gz:=e;have:=jy.out;omega))
         replace HZ:=ħ hbz
         clear hbz hfz hsz
         obtain ⟨wx,hwx⟩:∃ wx,wx=wz:=⟨_,rfl⟩
         rw[←hwx] at HR⊢
         try rw[←hwx] at HZ
         try rw[←hwx] at HZ2
         clear hwx
         refine hK.out _ _ ?_ (fun hHeld=>?_)
         ·exact HR.out
         clear hK K
         try simp only[Act.put,σa,σb,σc]
         refine wpAnyH_done (by kernel_rfl) ?_ _
         refine qb _ rfl (fun K hK=>?_)
         refine zf _ (by rfl) (.tmp 11) (.tmp 40) 48 (by rfl) _ 48 _ (ξ y.x y.An y.cn y.Ac y.cc y.Au y.cu) _ 10 136 zJ (by rfl) (by rfl) (by rfl) HZ2.out (by rfl) (zH (by simp[Value.oneCell'])) ?_
         intro wz hbz hfz hsz
         refine hK _ _ ?_
         replace HR:=ħ (show Fr (fun _=>False) wc wz from ⟨hfz.os.trans HR.out.os,hfz.tape.trans HR.out.tape,hfz.output.trans HR.out.output,Nat.le_trans HR.out.size hfz.size,fun k hk _=>(hfz.block k (Nat.lt_of_lt_of_le hk HR.out.size) (by have:=HG2.out;omega)).trans (HR.out.block k hk (fun e=>e))⟩)
         replace HZ:=ħ (HZ.out.fr hfz (fun e=>by have e2:gz=gy:=e;have:=jy.out;omega))
         go_wp2_with fail
         go_meet
         case rel=>exact ⟨_,_,rfl,rfl,by have:=jy.out;omega,HG.out,HG2.out,HZ.out,hbz,HR.out⟩
        exact AllReadyH.nil
       exact AllReadyH.nil
      refine AllReadyH.cons rfl (fun K hK=>?_) ?_
      ·skip
       go_simp
       have hbn:=zb.new wx 48 ζ
       have hge:=HR.out.size
       have hrn:=HR.out.alloc (.cells ζ 48)
       try have hne:=HZ.out.lt
       try have ho2:=HZ.out.alloc (.cells ζ 48)
       generalize wx.alloc _=wz at *
       generalize wx.heap.size=gy at *
       have HZ2:=ħ hbn
       have HG2:=ħ hge
       try have jy:=ħ hne
       try replace HZ:=ħ ho2
       replace HR:=ħ hrn
       clear hbn hge hrn
       try clear hne ho2
       obtain ⟨wx,hwx⟩:∃ wx,wx=wz:=⟨_,rfl⟩
       rw[←hwx] at HR⊢
       try rw[←hwx] at HZ
       try rw[←hwx] at HZ2
       clear hwx
       refine hK.out _ _ ?_ (fun hHeld=>?_)
       ·exact HR.out
       clear hK K
       try simp only[Act.put,σa,σb,σc]
       refine wpAnyH_ready (rs:=[10]) (by kernel_rfl) (by simp) ?_
       refine AllReadyH.cons rfl (fun K hK=>?_) ?_
       ·skip
        go_simp
        have hbn:=zb.new wx 48 ζ
        have hge:=HR.out.size
        have hrn:=HR.out.alloc (.cells ζ 48)
        try have hne:=HZ2.out.lt
        try have ho2:=HZ2.out.alloc (.cells ζ 48)
        generalize wx.alloc _=wz at *
        generalize wx.heap.size=gz at *
        have HZ:=ħ hbn
        have HG:=ħ hge
        try have jy:=ħ hne
        try replace HZ2:=ħ ho2
        replace HR:=ħ hrn
        clear hbn hge hrn
        try clear hne ho2
        obtain ⟨wx,hwx⟩:∃ wx,wx=wz:=⟨_,rfl⟩
        rw[←hwx] at HR⊢
        try rw[←hwx] at HZ
        try rw[←hwx] at HZ2
        clear hwx
        refine hK.out _ _ ?_ (fun hHeld=>?_)
        ·exact HR.out
        clear hK K
        try simp only[Act.put,σa,σb,σc]
        refine wpAnyH_ready (rs:=[12]) (by kernel_rfl) (by simp) ?_
        refine AllReadyH.cons rfl (fun K hK=>?_) ?_
        ·skip
         refine zf _ (by rfl) (.tmp 10) (.tmp 35) 48 (by rfl) _ 48 _ (ξ x.x x.An x.cn x.Ac x.cc x.Au x.cu) _ 10 136 zJ (by rfl) (by rfl) (by rfl) HZ.out (by rfl) (zH (by simp[Value.oneCell'])) ?_
         intro wz hbz hfz hsz
         replace HR:=ħ (show Fr (fun _=>False) wc wz from ⟨hfz.os.trans HR.out.os,hfz.tape.trans HR.out.tape,hfz.output.trans HR.out.output,Nat.le_trans HR.out.size hfz.size,fun k hk _=>(hfz.block k (Nat.lt_of_lt_of_le hk HR.out.size) (by have:=HG.out;omega)).trans (HR.out.block k hk (fun e=>e))⟩)
         replace HZ2:=ħ (HZ2.out.fr hfz (fun e=>by have e2:gy=gz:=e;have:=jy.out;omega))
         replace HZ:=ħ hbz
         clear hbz hfz hsz
         obtain ⟨wx,hwx⟩:∃ wx,wx=wz:=⟨_,rfl⟩
         rw[←hwx] at HR⊢
         try rw[←hwx] at HZ
         try rw[←hwx] at HZ2
         clear hwx
         refine hK.out _ _ ?_ (fun hHeld=>?_)
         ·exact HR.out
         clear hK K
         try simp only[Act.put,σa,σb,σc]
         refine wpAnyH_done (by kernel_rfl) ?_ _
         refine qb _ rfl (fun K hK=>?_)
         refine zf _ (by rfl) (.tmp 11) (.tmp 40) 48 (by rfl) _ 48 _ (ξ y.x y.An y.cn y.Ac y.cc y.Au y.cu) _ 10 136 zJ (by rfl) (by rfl) (by rfl) HZ2.out (by rfl) (zH (by simp[Value.oneCell'])) ?_
         intro wz hbz hfz hsz
         refine hK _ _ ?_
         replace HR:=ħ (show Fr (fun _=>False) wc wz from ⟨hfz.os.trans HR.out.os,hfz.tape.trans HR.out.tape,hfz.output.trans HR.out.output,Nat.le_trans HR.out.size hfz.size,fun k hk _=>(hfz.block k (Nat.lt_of_lt_of_le hk HR.out.size) (by have:=HG2.out;omega)).trans (HR.out.block k hk (fun e=>e))⟩)
         replace HZ:=ħ (HZ.out.fr hfz (fun e=>by have e2:gz=gy:=e;have:=jy.out;omega))
         go_wp2_with fail
         go_meet
         case rel=>exact ⟨_,_,rfl,rfl,by have:=jy.out;omega,HG.out,HG2.out,HZ.out,hbz,HR.out⟩
        exact AllReadyH.nil
       exact AllReadyH.nil
      exact AllReadyH.nil
     case rest=>
      obtain ⟨px,py,rfl,rfl,hxy,hpx,hpy,hbx,hby,hf⟩:=hcut
      have Z6:=ħ (show B4 w _ (β v) px py (ξ x.x x.An x.cn x.Ac x.cc x.Au x.cu) (ξ y.x y.An y.cn y.Ac y.cc y.Au y.cu) from ⟨qa.out.below (hf.below (Nat.le_refl _) (fun _ _ e=>e)),hbx,hby⟩)
      have hzx:w.heap.size+2≤px:=by have:=qa.out.sz;omega
      have sG:w.heap.size+2≤py:=by have:=qa.out.sz;omega
      clear hbx hby hf qa jh
      have FL:=ħ fun (W:World)=>Jc x W
      have EM:=ħ fun (W:World)=>Jc y W
      have x0:=Z6.out.n.b.facts
      have y0:=Z6.out.x.facts
      have z0:=Z6.out.y.facts
      cases hox:zx x.x with
      | false=>
       have HE:=ħ (show zM v.bk id into=(v.bk,8) by unfold zM;rw[if_neg VV.out,HX.out,HY.out];dsimp only;rw[if_pos (.inl hox)])
       rw[hox] at FL
       clear hox
       go_wp2_with (first | (go_at_call 68;((with_reducible refine (FL.out _).mono ?_);rintro e w4 ⟨rfl,hb⟩;have qA:=ħ (Z6.out.below hb);clear hb x0 y0 z0;have x0:=qA.out.n.b.facts;have y0:=qA.out.x.facts;have z0:=qA.out.y.facts)) | (refine z8 rfl (.tmp 6) (.tmp 49) 29 rfl (w.heap.size+1) 29 _ (β v) _ 2 48 zy rfl rfl rfl qA.out.n.z rfl zq ?_;intro w8 zW zI yL))
       refine bodyPost_ret (za (p:=6) (u:=7) (ty:=29) Tryz.results46 _ _ (w.heap.size+1) 29 (β v) (0,0) _ rfl zW Tryz.underlying29 rfl zm) rfl ?_
       exact HFin.out 8 _ (qA.out.n.be.trans (zI.below qA.out.n.be.size (fun j hj e=>by have e2:j=w.heap.size+1:=e;omega))) HE.out
      | true=>
       rw[hox] at FL
       have L_:=ħ hox
       clear hox
       cases hoy:zx y.x with
       | false=>
        have HE:=ħ (show zM v.bk id into=(v.bk,8) by unfold zM;rw[if_neg VV.out,HX.out,HY.out];dsimp only;rw[if_pos (.inr hoy)])
        rw[hoy] at EM
        clear hoy
        go_wp2_with (first | (go_at_call 68;((with_reducible refine (FL.out _).mono ?_);rintro e w4 ⟨rfl,hb⟩;have qA:=ħ (Z6.out.below hb);clear hb x0 y0 z0;have x0:=qA.out.n.b.facts;have y0:=qA.out.x.facts;have z0:=qA.out.y.facts)) | (go_at_call 68;((with_reducible refine (EM.out _).mono ?_);rintro e w4 ⟨rfl,hb⟩;have y9:=ħ (qA.out.below hb);clear hb x0 y0 z0;have x0:=y9.out.n.b.facts;have y0:=y9.out.x.facts;have z0:=y9.out.y.facts)) | (refine z8 rfl (.tmp 6) (.tmp 49) 29 rfl (w.heap.size+1) 29 _ (β v) _ 2 48 zy rfl rfl rfl y9.out.n.z rfl zq ?_;intro w8 zW zI yL))
        refine bodyPost_ret (za (p:=6) (u:=7) (ty:=29) Tryz.results46 _ _ (w.heap.size+1) 29 (β v) (0,0) _ rfl zW Tryz.underlying29 rfl zm) rfl ?_
        exact HFin.out 8 _ (y9.out.n.be.trans (zI.below y9.out.n.be.size (fun j hj e=>by have e2:j=w.heap.size+1:=e;omega))) HE.out
       | true=>
        rw[hoy] at EM
        have M3:=ħ hoy
        clear hoy
        have Ia:=ħ (show ¬ (zx x.x=false∨zx y.x=false) by rw[L_.out,M3.out];simp)
        go_upto_region 9 with (first | (go_at_call 68;((with_reducible refine (FL.out _).mono ?_);rintro e w4 ⟨rfl,hb⟩;have qA:=ħ (Z6.out.below hb);clear hb x0 y0 z0;have x0:=qA.out.n.b.facts;have y0:=qA.out.x.facts;have z0:=qA.out.y.facts)) | (go_at_call 68;((with_reducible refine (EM.out _).mono ?_);rintro e w4 ⟨rfl,hb⟩;have y9:=ħ (qA.out.below hb);clear hb x0 y0 z0;have x0:=y9.out.n.b.facts;have y0:=y9.out.x.facts;have z0:=y9.out.y.facts)))
        by_cases hsum:1000<x.x.calls.length+y.x.calls.length
        ·have HE:=ħ (show zM v.bk id into=(v.bk,3) by unfold zM;rw[if_neg VV.out,HX.out,HY.out];dsimp only;rw[if_neg Ia.out,if_pos hsum])
         have hsd:(1000:Int)<(x.x.calls.length:Int)+(y.x.calls.length:Int):=by omega
         go_wp2_with ((refine z8 rfl (.tmp 6) (.tmp 58) 29 rfl (w.heap.size+1) 29 _ (β v) _ 2 48 zy rfl rfl rfl y9.out.n.z rfl zq ?_;intro w8 zW zI yL))
         refine bodyPost_ret (za (p:=6) (u:=7) (ty:=29) Tryz.results46 _ _ (w.heap.size+1) 29 (β v) (0,0) _ rfl zW Tryz.underlying29 rfl zm) rfl ?_
         exact HFin.out 3 _ (y9.out.n.be.trans (zI.below y9.out.n.be.size (fun j hj e=>by have e2:j=w.heap.size+1:=e;omega))) HE.out
        ·have HE:=ħ (show zM v.bk id into=(qw ⟨zz (zz v.bk.L (qz x.x into)) { y.x with units:=qp x.x.units y.x.units },v.bk.C.map (Zv (fun t=>if t.inc=id then into else t.inc) (fun t=>t.closed))⟩ into,0) by unfold zM;rw[if_neg VV.out,HX.out,HY.out];dsimp only;rw[if_neg Ia.out,if_neg hsum])
         have hsd:¬ (1000:Int)<(x.x.calls.length:Int)+(y.x.calls.length:Int):=by omega
         have XN:=ħ (show zg n ⟨zz (zz v.bk.L (qz x.x into)) { y.x with units:=qp x.x.units y.x.units },v.bk.C.map (Zv (fun t=>if t.inc=id then into else t.inc) (fun t=>t.closed))⟩ into∧zw (zz (zz v.bk.L (qz x.x into)) { y.x with units:=qp x.x.units y.x.units }) into=some { y.x with units:=qp x.x.units y.x.units } from by
          obtain ⟨k1,k2,k3⟩:=Yr HG.out.g VV.out HX.out HY.out L_.out M3.out
          exact ⟨k1,k2⟩)
         go_upto_region 11 with fail
         clear hsum hsd HFin FL EM Ia
         have P9:=ħ (Vq HV.out.sC id into)
         have HV5:=ħ ((HV.out.ok.old.more (B':=(fun j=>B j∧j≠w.heap.size∧j≠w.heap.size+1∧j≠px∧j≠py)) (fun j hj=>⟨hj.1,by have:=hj.2;omega,by have:=hj.2;omega,by have:=hj.2;omega,by have:=hj.2;omega⟩)).below0 y9.out.n.be)
         have CJ:=ħ (show XR w (fun k=>B k∧k<w.heap.size) x from ⟨Xx.out.n.old (by omega),Xx.out.c.old (by omega),Xx.out.u.old (by omega)⟩)
         have Lc:=ħ (show XR w (fun k=>B k∧k<w.heap.size) y from ⟨Ja.out.n.old (by omega),Ja.out.c.old (by omega),Ja.out.u.old (by omega)⟩)
         have CK:=y9.out.x.lt
         have Oh:=y9.out.y.lt
         have Ei:=ħ (lN v (fun j=>B j∧j≠w.heap.size∧j≠w.heap.size+1∧j≠px∧j≠py) id _ HV5.out (fun j hj=>by have h1:=y9.out.n.be.size;have h2:=y9.out.n.sz;exact ⟨HV.out.up j (by omega),by omega,by omega,by omega,by omega⟩) (by have:=HV.out.nC;omega))
         go_wp2_with (go_at_call 94;((with_reducible refine Ei.out.mono ?_);rintro e W4 ⟨Ao,co,rfl,jW,hor,hb⟩;have yS:=ħ jW;have vZ:=ħ hor;have yx:=ħ (y9.out.below hb);have X8:=ħ (HV5.out.below0 hb);have hs6:=hb.size;clear jW hor hb x0 y0 z0 y9 HV5 Ei qA Z6;have x0:=yx.out.n.b.facts))
         have bL:=ħ (show (Xw v.lc id).map (fun a=>a.c)=qB v.bk.C id from UG v.lc id)
         have hol:(Xw v.lc id).length≤1000:=Nat.le_trans (XK _ _) HV.out.nC
         obtain ⟨O,hO⟩:∃ O,O=Xw v.lc id:=⟨_,rfl⟩
         rw[←hO] at yS vZ bL hol⊢
         clear hO x0
         have zP:=yS
         have ja:=vZ
         have Zp:=ħ yx.out.n.b
         have GH:=ħ yx.out.n.z
         have jq:=ħ yx.out.x
         have J9:=ħ yx.out.y
         have fV:=X8
         have tN:=ħ yx.out.n.be
         have nG:=ħ ((CJ.out.below yx.out.n.be).more (B':=(fun j=>B j∧j≠w.heap.size∧j≠w.heap.size+1∧j≠px∧j≠py)) (fun j hj=>⟨hj.1,by have:=hj.2;omega,by have:=hj.2;omega,by have:=hj.2;omega,by have:=hj.2;omega⟩))
         have ol:=ħ ((Lc.out.below yx.out.n.be).more (B':=(fun j=>B j∧j≠w.heap.size∧j≠w.heap.size+1∧j≠px∧j≠py)) (fun j hj=>⟨hj.1,by have:=hj.2;omega,by have:=hj.2;omega,by have:=hj.2;omega,by have:=hj.2;omega⟩))
         have hs4:w.heap.size+2≤W4.heap.size:=yx.out.n.sz
         have Oo:=yx.out.x.lt
         have NT:=yx.out.y.lt
         clear yS vZ X8 yx
         have hpo:=zP.out.plain (by omega)
         have x0:=Zp.out.facts
         go_loopw [63] (fun vi wr=>∃ (k:Nat) (C1:List Ca) (A1:Option Addr) (c1:Nat),k≤O.length∧vi=ι (k:Int)∧Fr (fun j=>j=w.heap.size) W4 wr∧zb wr w.heap.size 29 #[.slice v.AL v.la.length v.cL,.slice A1 C1.length c1]∧zX wr (fun j=>B j∧j≠w.heap.size∧j≠w.heap.size+1∧j≠px∧j≠py) ⟨v.la,v.AL,v.cL,C1,A1,c1⟩∧C1.map (fun a=>a.c)=y_ (fun t:Cr=>{ t with inc:=into }) v.bk.C ((O.map (fun a=>a.c)).take k)∧C1.length≤v.lc.length+k) (fun vi _=>O.length - (intOf vi).toNat)
         case atStart=>exact ⟨0,v.lc,v.AC,v.cC,Nat.zero_le _,rfl,Fr.refl _ _,Zp.out,fV.out,rfl,Nat.le_refl _⟩
         case round=>
          obtain ⟨k,C1,A1,c1,hk,rfl,hf,hb,hv,hm,hl⟩:=hrel
          have HF:=ħ hf
          have Eb:=ħ hb
          have eF:=ħ hv
          have ES:=ħ hm
          have eH:=ħ hl
          have hsz:=hf.size
          clear hf hb hv hm hl x0
          by_cases hlt:k<O.length
          ·have hlt':(k:Int)<O.length:=by omega
           have hix:=fun W=>UC hpo co k hlt W
           have qm:=ħ (zP.out.fr HF.out (fun j hj e=>hj.2.1 e))
           obtain ⟨t,ht⟩:∃ t,t=O[k]:=⟨_,rfl⟩
           have Kk:=ħ ((ja.out t (by rw[ht];exact List.getElem_mem hlt)).fr HF.out (fun j hj e=>hj.2.1 e))
           obtain ⟨e0,e1,e2,e3,e4,e5,e6,e7⟩:=Qz qm.out hlt ht
           have hbl:=qm.out.bk_lt (by omega) (by omega)
           have HS:=ħ (show y_ (fun t:Cr=>{ t with inc:=into }) v.bk.C ((O.map (fun a=>a.c)).take (k+1))=zG (y_ (fun t:Cr=>{ t with inc:=into }) v.bk.C ((O.map (fun a=>a.c)).take k)) { t.c with inc:=into } by rw[Qj _ _ _ (by rw[List.length_map];exact hlt),List.getElem_map,ht])
           have bS:=ħ (show Asc Cr.call (C1.map (fun a=>a.c)) by rw[ES.out];exact Ze _ _ _ HV.out.sC)
           clear ht
           have x0:=Eb.out.facts
           go_upto_region 15 with fail
           have HW:=ħ (show zX (wr.alloc (.cells #[ι t.c.call,ι into,ι t.c.urg,.string t.c.code,.slice t.A t.c.nodes.length t.k,ι t.c.dist,ι t.c.since,.bool t.c.closed] 34)) (fun j=>B j∧j≠w.heap.size∧j≠w.heap.size+1∧j≠px∧j≠py) ⟨v.la,v.AL,v.cL,C1,A1,c1⟩ from eF.out.alloc _)
           have Qp:=ħ (show zb (wr.alloc (.cells #[ι t.c.call,ι into,ι t.c.urg,.string t.c.code,.slice t.A t.c.nodes.length t.k,ι t.c.dist,ι t.c.since,.bool t.c.closed] 34)) w.heap.size 29 #[.slice v.AL v.la.length v.cL,.slice A1 C1.length c1] from Eb.out.alloc _)
           have pQ:=ħ (HF.out.alloc (.cells #[ι t.c.call,ι into,ι t.c.urg,.string t.c.code,.slice t.A t.c.nodes.length t.k,ι t.c.dist,ι t.c.since,.bool t.c.closed] 34))
           have Cs:=ħ (Kk.out.alloc (.cells #[ι t.c.call,ι into,ι t.c.urg,.string t.c.code,.slice t.A t.c.nodes.length t.k,ι t.c.dist,ι t.c.since,.bool t.c.closed] 34))
           have rP:=ħ (zb.new wr 34 #[ι t.c.call,ι into,ι t.c.urg,.string t.c.code,.slice t.A t.c.nodes.length t.k,ι t.c.dist,ι t.c.since,.bool t.c.closed])
           clear e0 e1 e2 e3 e4 e5 e6 e7 hbl x0 HF Eb eF Kk qm hix
           obtain ⟨pn,hpn⟩:∃ p,p=wr.heap.size:=⟨_,rfl⟩
           rw[←hpn] at rP⊢
           clear hpn hsz
           have hsz:=pQ.out.size
           generalize wr.alloc _=W5 at *
           have x0:=Qp.out.facts
           have y0:=rP.out.facts
           have FP:=ħ (show Calls Tryz.prog 89 #[.agg #[.slice v.AL v.la.length v.cL,.slice A1 C1.length c1],.agg #[ι t.c.call,ι into,ι t.c.urg,.string t.c.code,.slice t.A t.c.nodes.length t.k,ι t.c.dist,ι t.c.since,.bool t.c.closed]] W5 (eP v.la v.AL v.cL C1 { t.c with inc:=into } (fun j=>B j∧j≠w.heap.size∧j≠w.heap.size+1∧j≠px∧j≠py) W5) from Zg v.la v.AL v.cL C1 A1 c1 ⟨{ t.c with inc:=into },t.A,t.k⟩ (fun j=>B j∧j≠w.heap.size∧j≠w.heap.size+1∧j≠px∧j≠py) W5 HW.out Cs.out (fun j hj=>⟨HV.out.up j (by omega),by omega,by omega,by omega,by omega⟩) bS.out (by have:=eH.out;have:=HV.out.nC;omega))
           go_wp2_with (first | (go_at_call 89;((with_reducible refine FP.out.mono ?_);rintro e w6 ⟨C2,A2,c2,rfl,hv2,hm2,hn2,hb⟩;have vg:=ħ hv2;have VW:=ħ hm2;have ZR:=ħ (pQ.out.trans_ (Fr.of_below (S:=fun _=>False) hb) (fun _ e=>e.elim));have Qq:=ħ (Qp.out.below hb Qp.out.lt);clear hb hv2 hm2 x0 y0;have x0:=Qq.out.facts)) | (refine z8 rfl (.tmp 3) (.tmp 71) 29 rfl (w.heap.size) 29 _ #[.slice v.AL v.la.length v.cL,.slice A2 C2.length c2] _ 2 48 zy rfl rfl rfl Qq.out rfl zq ?_;intro w8 zW zI yL))
           refine ⟨⟨k+1,C2,A2,c2,by omega,by go_num,ZR.out.trans zI,zW,vg.out.fr zI (fun j hj e=>hj.2.1 e),by rw[VW.out,HS.out,ES.out],by have:=eH.out;omega⟩,by simp[intOf];omega⟩
          ·have hlt':¬ (k:Int)<O.length:=by omega
           have hk3:k=O.length:=by omega
           subst hk3
           rw[List.take_of_length_le (by rw[List.length_map];omega)] at ES
           have x0:=Eb.out.facts
           rw[bL.out,P9.out] at ES
           have nW:=ħ (HF.out.below (B:=w.heap.size) (by omega) (fun j hj e=>by have e2:j=w.heap.size:=e;omega))
           have Qq:=ħ (tN.out.trans nW.out)
           have ZI:=ħ (jq.out.fr HF.out (by show ¬ (px=w.heap.size);omega))
           have U6:=ħ (J9.out.fr HF.out (by show ¬ (py=w.heap.size);omega))
           have Zm:=ħ (GH.out.fr HF.out (by show ¬ (w.heap.size+1=w.heap.size);omega))
           have Im:=ħ (nG.out.fr HF.out (fun j hj e=>hj.2.1 e))
           have CP:=ħ (ol.out.fr HF.out (fun j hj e=>hj.2.1 e))
           have hsw:=HF.out.size
           clear HF jq J9 GH nG ol zP ja Zp fV hpo eH hsz
           have y0:=ZI.out.facts
           have z0:=U6.out.facts
           have mP:=ħ (show Calls Tryz.prog 95 #[.slice x.Au x.x.units.length x.cu,.slice y.Au y.x.units.length y.cu] wr (qL (qp x.x.units y.x.units) 3 wr) from kD (fun j=>B j∧j≠w.heap.size∧j≠w.heap.size+1∧j≠px∧j≠py) (fun j=>B j∧j≠w.heap.size∧j≠w.heap.size+1∧j≠px∧j≠py) x.Au y.Au x.cu y.cu x.x.units y.x.units wr Im.out.u CP.out.u (by omega) (by omega))
           obtain ⟨U,hU⟩:∃ U,U=qp x.x.units y.x.units:=⟨_,rfl⟩
           rw[←hU] at mP HE XN
           clear hU
           go_upto_region 18 with (go_at_call 95;((with_reducible refine mP.out.mono ?_);rintro e w7 ⟨A9,c9,rfl,rR,ZK⟩;have Z5:=ħ rR;have Z7:=ħ (Qq.out.trans (ZK.mono Qq.out.size));have iX:=ħ (Eb.out.below ZK Eb.out.lt);have Kn:=ħ (ZI.out.below ZK ZI.out.lt);have RZ:=ħ (U6.out.below ZK U6.out.lt);have lQ:=ħ (Zm.out.below ZK Zm.out.lt);have nQ:=ħ (Im.out.below ZK);have pY:=ħ (CP.out.below ZK);have BK:=ħ (eF.out.below0 ZK);have hs7:=ZK.size;clear rR ZK x0 y0 z0;have x0:=iX.out.facts;have y0:=Kn.out.facts;have z0:=RZ.out.facts))
           have xU:=ħ ((Fr.refl (fun k=>k=px∨k=py) w7).setCell (p:=⟨py,7,none⟩) (.inl (.inr rfl)) (.slice A9 U.length c9))
           have E9:=ħ (show zb (w7.setCell ⟨py,7,none⟩ (.slice A9 U.length c9)) py 48 #[ι y.x.id,ι y.x.urg,.string y.x.code,.slice y.An y.x.nodes.length y.cn,ι y.x.dist,ι y.x.since,.slice y.Ac y.x.calls.length y.cc,.slice A9 U.length c9,ι y.x.merged,.bool y.x.closed] by
            have:=RZ.out.set_ 7 (.slice A9 U.length c9);simpa using this)
           have BG:=ħ (Kn.out.far (p:=⟨py,7,none⟩) (by simp;omega) (.slice A9 U.length c9))
           clear x0 y0 z0 ZI U6 Zm Im CP Eb eF mP hix OD
           obtain ⟨w8,hw8⟩:∃ w8,w8=w7.setCell ⟨py,7,none⟩ (.slice A9 U.length c9):=⟨_,rfl⟩
           rw[←hw8] at xU E9 BG⊢
           clear hw8
           have y0:=BG.out.facts
           have z0:=E9.out.facts
           go_upto_region 19 with fail
           have VM:=ħ (show zb (((w8.setCell ⟨px,8,none⟩ (ι into)).setCell ⟨px,6,none⟩ (.slice none 0 0)).setCell ⟨px,7,none⟩ (.slice none 0 0)) px 48 #[ι x.x.id,ι x.x.urg,.string x.x.code,.slice x.An x.x.nodes.length x.cn,ι x.x.dist,ι x.x.since,.slice none 0 0,.slice none 0 0,ι into,.bool x.x.closed] by
            have:=((BG.out.set_ 8 (ι into)).set_ 6 (.slice none 0 0)).set_ 7 (.slice none 0 0);simpa using this)
           have Yn:=ħ (((xU.out.setCell (p:=⟨px,8,none⟩) (.inl (.inl rfl)) (ι into)).setCell (p:=⟨px,6,none⟩) (.inl (.inl rfl)) (.slice none 0 0)).setCell (p:=⟨px,7,none⟩) (.inl (.inl rfl)) (.slice none 0 0))
           have gZ:=ħ (((E9.out.far (p:=⟨px,8,none⟩) (by simp;omega) (ι into)).far (p:=⟨px,6,none⟩) (by simp;omega) (.slice none 0 0)).far (p:=⟨px,7,none⟩) (by simp;omega) (.slice none 0 0))
           clear y0 z0 BG E9 xU Kn RZ
           generalize World.setCell _ _ _=W9 at *
           have Z_:=ħ (Z7.out.trans (Yn.out.below Z7.out.size (fun j hj e=>by rcases e with e | e <;> omega)))
           have UN:=ħ (iX.out.fr Yn.out (by rintro (e | e) <;> omega))
           have Kl:=ħ (lQ.out.fr Yn.out (by rintro (e | e) <;> omega))
           have MM:=ħ (BK.out.fr Yn.out (fun j hj e=>e.elim hj.2.2.2.1 hj.2.2.2.2))
           have oM:=ħ (show XR W9 (fun j=>B j∧j≠w.heap.size∧j≠w.heap.size+1∧j≠px∧j≠py) ⟨(qz x.x into),x.An,none,none,x.cn,0,0⟩ from ⟨(nQ.out.fr Yn.out (fun j hj e=>e.elim hj.2.2.2.1 hj.2.2.2.2)).n,Reads.none_,Reads.none_⟩)
           have pK:=ħ (show XR W9 (fun j=>B j∧j≠w.heap.size∧j≠w.heap.size+1∧j≠px∧j≠py) ⟨{ y.x with units:=U },y.An,y.Ac,A9,y.cn,y.cc,c9⟩ from by
            have k1:=pY.out.fr Yn.out (fun j hj e=>e.elim hj.2.2.2.1 hj.2.2.2.2)
            have k3:=((qK Z5.out).fr Yn.out (fun j hj e=>by have h2:wr.heap.size≤j:=hj;rcases e with e | e <;> omega)).more (B':=(fun j=>B j∧j≠w.heap.size∧j≠w.heap.size+1∧j≠px∧j≠py)) (fun k hk=>by
             have h2:wr.heap.size≤k:=hk
             exact ⟨HV.out.up k (by omega),by omega,by omega,by omega,by omega⟩)
            exact ⟨k1.n,k1.c,k3⟩)
           have Le:=Yn.out.size
           clear lQ nQ pY BK iX Yn Z5 Z7 Qq
           have HK:=ħ fun (W':World) (hb:Below W9.heap.size W9 W')=>(show (W'.cell? ⟨w.heap.size,0,none⟩=some (.slice v.AL v.la.length v.cL)∧W'.cell? ⟨w.heap.size,1,none⟩=some (.slice A1 C1.length c1))∧(W'.cell? ⟨px,0,none⟩=some (ι x.x.id)∧W'.cell? ⟨px,1,none⟩=some (ι x.x.urg)∧W'.cell? ⟨px,2,none⟩=some (.string x.x.code)∧W'.cell? ⟨px,3,none⟩=some (.slice x.An x.x.nodes.length x.cn)∧W'.cell? ⟨px,4,none⟩=some (ι x.x.dist)∧W'.cell? ⟨px,5,none⟩=some (ι x.x.since)∧W'.cell? ⟨px,6,none⟩=some (.slice none 0 0)∧W'.cell? ⟨px,7,none⟩=some (.slice none 0 0)∧W'.cell? ⟨px,8,none⟩=some (ι into)∧W'.cell? ⟨px,9,none⟩=some (.bool x.x.closed))∧(W'.cell? ⟨py,0,none⟩=some (ι y.x.id)∧W'.cell? ⟨py,1,none⟩=some (ι y.x.urg)∧W'.cell? ⟨py,2,none⟩=some (.string y.x.code)∧W'.cell? ⟨py,3,none⟩=some (.slice y.An y.x.nodes.length y.cn)∧W'.cell? ⟨py,4,none⟩=some (ι y.x.dist)∧W'.cell? ⟨py,5,none⟩=some (ι y.x.since)∧W'.cell? ⟨py,6,none⟩=some (.slice y.Ac y.x.calls.length y.cc)∧W'.cell? ⟨py,7,none⟩=some (.slice A9 U.length c9)∧W'.cell? ⟨py,8,none⟩=some (ι y.x.merged)∧W'.cell? ⟨py,9,none⟩=some (.bool y.x.closed)) from ⟨⟨(UN.out.below hb UN.out.lt).cell 0,(UN.out.below hb UN.out.lt).cell 1⟩,Zy (w:=w) (VM.out.below hb VM.out.lt),Zy (w:=w) (gZ.out.below hb gZ.out.lt)⟩)
           have HZ:=ħ fun (W':World) (hb:Below W9.heap.size W9 W')=>Kl.out.below hb Kl.out.lt
           have MP:=Kl.out.lt
           have FH:=ħ fun (W':World) (hb:Below W9.heap.size W9 W') (a b:Value)=>(show ((fun W':World=>(W'.cell? ⟨w.heap.size,0,none⟩=some (.slice v.AL v.la.length v.cL)∧W'.cell? ⟨w.heap.size,1,none⟩=some (.slice A1 C1.length c1))∧(W'.cell? ⟨px,0,none⟩=some (ι x.x.id)∧W'.cell? ⟨px,1,none⟩=some (ι x.x.urg)∧W'.cell? ⟨px,2,none⟩=some (.string x.x.code)∧W'.cell? ⟨px,3,none⟩=some (.slice x.An x.x.nodes.length x.cn)∧W'.cell? ⟨px,4,none⟩=some (ι x.x.dist)∧W'.cell? ⟨px,5,none⟩=some (ι x.x.since)∧W'.cell? ⟨px,6,none⟩=some (.slice none 0 0)∧W'.cell? ⟨px,7,none⟩=some (.slice none 0 0)∧W'.cell? ⟨px,8,none⟩=some (ι into)∧W'.cell? ⟨px,9,none⟩=some (.bool x.x.closed))∧(W'.cell? ⟨py,0,none⟩=some (ι y.x.id)∧W'.cell? ⟨py,1,none⟩=some (ι y.x.urg)∧W'.cell? ⟨py,2,none⟩=some (.string y.x.code)∧W'.cell? ⟨py,3,none⟩=some (.slice y.An y.x.nodes.length y.cn)∧W'.cell? ⟨py,4,none⟩=some (ι y.x.dist)∧W'.cell? ⟨py,5,none⟩=some (ι y.x.since)∧W'.cell? ⟨py,6,none⟩=some (.slice y.Ac y.x.calls.length y.cc)∧W'.cell? ⟨py,7,none⟩=some (.slice A9 U.length c9)∧W'.cell? ⟨py,8,none⟩=some (ι y.x.merged)∧W'.cell? ⟨py,9,none⟩=some (.bool y.x.closed))) ((W'.setCell ⟨w.heap.size+1,0,none⟩ a).setCell ⟨w.heap.size+1,1,none⟩ b)) from
            ⟨⟨(((UN.out.below hb UN.out.lt).far (p:=⟨w.heap.size+1,0,none⟩) (by simp) a).far (p:=⟨w.heap.size+1,1,none⟩) (by simp) b).cell 0,(((UN.out.below hb UN.out.lt).far (p:=⟨w.heap.size+1,0,none⟩) (by simp) a).far (p:=⟨w.heap.size+1,1,none⟩) (by simp) b).cell 1⟩,Zy (w:=w) (((VM.out.below hb VM.out.lt).far (p:=⟨w.heap.size+1,0,none⟩) (by simp;omega) a).far (p:=⟨w.heap.size+1,1,none⟩) (by simp;omega) b),Zy (w:=w) (((gZ.out.below hb gZ.out.lt).far (p:=⟨w.heap.size+1,0,none⟩) (by simp;omega) a).far (p:=⟨w.heap.size+1,1,none⟩) (by simp;omega) b)⟩)
           have dR:=ħ fun (W:World) (hb:Below W9.heap.size W9 W)=>(show ∀ j,W.heap.size≤j→(fun j=>B j∧j≠w.heap.size∧j≠w.heap.size+1∧j≠px∧j≠py) j from fun j hj=>by have h1:=hb.size;have h2:=Z_.out.size;exact ⟨HV.out.up j (by omega),by omega,by omega,by omega,by omega⟩)
           have FQ:=ħ fun (W:World) (hb:Below W9.heap.size W9 W)=>(show Calls Tryz.prog 90 #[.agg #[.slice v.AL v.la.length v.cL,.slice A1 C1.length c1],.agg #[ι x.x.id,ι x.x.urg,.string x.x.code,.slice x.An x.x.nodes.length x.cn,ι x.x.dist,ι x.x.since,.slice none 0 0,.slice none 0 0,ι into,.bool x.x.closed]] W (dh v.la C1 A1 c1 (qz x.x into) (fun j=>B j∧j≠w.heap.size∧j≠w.heap.size+1∧j≠px∧j≠py) W) from jZ v.la v.AL v.cL C1 A1 c1 ⟨(qz x.x into),x.An,none,none,x.cn,0,0⟩ (fun j=>B j∧j≠w.heap.size∧j≠w.heap.size+1∧j≠px∧j≠py) W (MM.out.below0 hb) (oM.out.below hb) (dR.out W hb) HV.out.sL (by have:=HV.out.nL;omega))
           have C8:=ħ fun (L2:List Xa) (A2:Option Addr) (c2:Nat) (hm:L2.map (fun a=>a.x)=zz (v.la.map (fun a=>a.x)) (qz x.x into)) (hl:L2.length≤v.la.length+1) (W:World) (hb:Below W9.heap.size W9 W) (hv:zX W (fun j=>B j∧j≠w.heap.size∧j≠w.heap.size+1∧j≠px∧j≠py) ⟨L2,A2,c2,C1,A1,c1⟩)=>(show Calls Tryz.prog 90 #[.agg #[.slice A2 L2.length c2,.slice A1 C1.length c1],.agg #[ι y.x.id,ι y.x.urg,.string y.x.code,.slice y.An y.x.nodes.length y.cn,ι y.x.dist,ι y.x.since,.slice y.Ac y.x.calls.length y.cc,.slice A9 U.length c9,ι y.x.merged,.bool y.x.closed]] W (dh L2 C1 A1 c1 { y.x with units:=U } (fun j=>B j∧j≠w.heap.size∧j≠w.heap.size+1∧j≠px∧j≠py) W) from jZ L2 A2 c2 C1 A1 c1 ⟨{ y.x with units:=U },y.An,y.Ac,A9,y.cn,y.cc,c9⟩ (fun j=>B j∧j≠w.heap.size∧j≠w.heap.size+1∧j≠px∧j≠py) W hv (pK.out.below hb) (dR.out W hb) (by rw[hm];exact zN Ic.id HV.out.sL _) (by have:=HV.out.nL;omega))
           have mE:=ħ fun (L2 L3:List Xa) (A3:Option Addr) (c3:Nat) (hm:L2.map (fun a=>a.x)=zz (v.la.map (fun a=>a.x)) (qz x.x into)) (Uv:L3.map (fun a=>a.x)=zz (L2.map (fun a=>a.x)) { y.x with units:=U }) (W:World) (hb:Below W9.heap.size W9 W) (hv:zX W (fun j=>B j∧j≠w.heap.size∧j≠w.heap.size+1∧j≠px∧j≠py) ⟨L3,A3,c3,C1,A1,c1⟩)=>(show Calls Tryz.prog 91 #[.agg #[.slice A3 L3.length c3,.slice A1 C1.length c1],ι into] W (pO ⟨L3.map (fun a=>a.x),C1.map (fun a=>a.c)⟩ into C1 A1 c1 (fun j=>B j∧j≠w.heap.size∧j≠w.heap.size+1∧j≠px∧j≠py) W) from
            Uo L3 A3 c3 C1 A1 c1 into n (fun j=>B j∧j≠w.heap.size∧j≠w.heap.size+1∧j≠px∧j≠py) W hv (dR.out W hb) (by rw[Uv,hm,ES.out];exact XN.out.1) (by have:=HG.out.n;omega) (by rw[Uv,hm];intro e;have:=XN.out.2;rw[show zz (zz v.bk.L (qz x.x into)) { y.x with units:=U }=zz (zz (v.la.map (fun a=>a.x)) (qz x.x into)) { y.x with units:=U } from rfl,e] at this;cases this))
           have K0:=HK.out _ (Below.refl _ W9).drew
           clear Xx Ja VM gZ Kl oM pK MM dR UN
           first | (go_region_held (fun W'=>(W'.cell? ⟨w.heap.size,0,none⟩=some (.slice v.AL v.la.length v.cL)∧W'.cell? ⟨w.heap.size,1,none⟩=some (.slice A1 C1.length c1))∧(W'.cell? ⟨px,0,none⟩=some (ι x.x.id)∧W'.cell? ⟨px,1,none⟩=some (ι x.x.urg)∧W'.cell? ⟨px,2,none⟩=some (.string x.x.code)∧W'.cell? ⟨px,3,none⟩=some (.slice x.An x.x.nodes.length x.cn)∧W'.cell? ⟨px,4,none⟩=some (ι x.x.dist)∧W'.cell? ⟨px,5,none⟩=some (ι x.x.since)∧W'.cell? ⟨px,6,none⟩=some (.slice none 0 0)∧W'.cell? ⟨px,7,none⟩=some (.slice none 0 0)∧W'.cell? ⟨px,8,none⟩=some (ι into)∧W'.cell? ⟨px,9,none⟩=some (.bool x.x.closed))∧(W'.cell? ⟨py,0,none⟩=some (ι y.x.id)∧W'.cell? ⟨py,1,none⟩=some (ι y.x.urg)∧W'.cell? ⟨py,2,none⟩=some (.string y.x.code)∧W'.cell? ⟨py,3,none⟩=some (.slice y.An y.x.nodes.length y.cn)∧W'.cell? ⟨py,4,none⟩=some (ι y.x.dist)∧W'.cell? ⟨py,5,none⟩=some (ι y.x.since)∧W'.cell? ⟨py,6,none⟩=some (.slice y.Ac y.x.calls.length y.cc)∧W'.cell? ⟨py,7,none⟩=some (.slice A9 U.length c9)∧W'.cell? ⟨py,8,none⟩=some (ι y.x.merged)∧W'.cell? ⟨py,9,none⟩=some (.bool y.x.closed))) (first | assumption | exact K0 | exact FH.out _ Hr _ _) (first
            | (go_at_call 90;((with_reducible refine (FQ.out _ ((Below.refl W9.heap.size W9).drew)).mono ?_);rintro e v2 ⟨L2,A2,c2,rfl,hv2,hm2,hn2,hb2⟩;have Dj:=((Below.refl W9.heap.size W9).drew).trans hb2;have K2:=HK.out _ Dj;have iV:=ħ (C8.out L2 A2 c2 hm2 hn2 _ Dj hv2);have VW:=ħ hm2;clear hb2 hv2 hm2 hn2))
            | (go_at_call 90;((with_reducible refine iV.out.mono ?_);rintro e v3 ⟨L3,A3,c3,rfl,hv3,Uv,xW,hb3⟩;have YB:=Dj.trans (hb3.mono Dj.size);have K3:=HK.out _ YB;have uj:=ħ (mE.out L2 L3 A3 c3 VW.out Uv _ YB hv3);have bW:=ħ Uv;clear hb3 hv3 Uv xW))
            | (go_at_call 91;((with_reducible refine uj.out.mono ?_);rintro e v4 ⟨L4,A4,c4,rfl,hv4,nT,hb4⟩;have Hr:=YB.trans (hb4.mono YB.size);have K4:=HK.out _ Hr;have iA:=ħ hv4;have l8:=ħ nT;have z0:=(HZ.out _ Hr).facts;clear hb4 hv4 nT)))) | fail
           all_goals
            have II:=ħ (show zb ((v4.setCell ⟨w.heap.size+1,0,none⟩ (.slice A4 L4.length c4)).setCell ⟨w.heap.size+1,1,none⟩ (.slice A1 C1.length c1)) (w.heap.size+1) 29 #[.slice A4 L4.length c4,.slice A1 C1.length c1] by
             have:=((HZ.out _ Hr).set_ 0 (.slice A4 L4.length c4)).set_ 1 (.slice A1 C1.length c1);simpa using this)
            go_wp2_with fail
            refine bodyPost_ret (za (p:=6) (u:=7) (ty:=29) Tryz.results46 _ _ (w.heap.size+1) 29 #[.slice A4 L4.length c4,.slice A1 C1.length c1] (0,0) _ rfl II.out Tryz.underlying29 rfl zm) rfl ?_
            rw[HE.out]
            have YS:=((Fr.refl (fun j=>j=w.heap.size+1) v4).setCell (p:=⟨w.heap.size+1,0,none⟩) (.inl rfl) (.slice A4 L4.length c4)).setCell (p:=⟨w.heap.size+1,1,none⟩) (.inl rfl) (.slice A1 C1.length c1)
            have ZK:=Z_.out.trans (Hr.mono Z_.out.size)
            refine ⟨⟨L4,A4,c4,C1,A1,c1⟩,rfl,(iA.out.fr YS (fun j hj e=>hj.2.2.1 e)).more (fun j hj=>hj.1),?_,ZK.trans (YS.below ZK.size (fun j hj e=>by have e2:j=w.heap.size+1:=e;omega))⟩
            show (⟨L4.map (fun a=>a.x),C1.map (fun a=>a.c)⟩:Bk)=_
            rw[l8.out,bW.out,VW.out,ES.out]
            exact QX _ _ rfl
    ·rw[hj]
     have HE:=ħ (show zM v.bk id into=(v.bk,4) by unfold zM;rw[if_neg VV.out,jw hgj,QD hlt hg])
     clear hi hg hj hgj
     go_wp2_with ((refine z8 rfl (.tmp 6) (.tmp 30) 29 rfl (w.heap.size+1) 29 _ (β v) _ 2 48 zy rfl rfl rfl qa.out.z rfl zq ?_;intro w8 zW zI yL))
     refine bodyPost_ret (za (p:=6) (u:=7) (ty:=29) Tryz.results46 _ _ (w.heap.size+1) 29 (β v) (0,0) _ rfl zW Tryz.underlying29 rfl zm) rfl ?_
     exact HFin.out 4 _ (qa.out.be.trans (zI.below qa.out.be.size (fun j hj e=>by have e2:j=w.heap.size+1:=e;omega))) HE.out
   ·rw[hi]
    have HE:=ħ (show zM v.bk id into=(v.bk,4) by unfold zM;rw[if_neg VV.out,jw hg])
    clear hi hg
    go_wp2_with ((refine z8 rfl (.tmp 6) (.tmp 30) 29 rfl (w.heap.size+1) 29 _ (β v) _ 2 48 zy rfl rfl rfl qa.out.z rfl zq ?_;intro w8 zW zI yL))
    refine bodyPost_ret (za (p:=6) (u:=7) (ty:=29) Tryz.results46 _ _ (w.heap.size+1) 29 (β v) (0,0) _ rfl zW Tryz.underlying29 rfl zm) rfl ?_
    exact HFin.out 4 _ (qa.out.be.trans (zI.below qa.out.be.size (fun j hj e=>by have e2:j=w.heap.size+1:=e;omega))) HE.out
end Go.Proofs.YtdhcjhfgibmhfaaGreatDoor
