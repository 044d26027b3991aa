import Derived.Test.YtdhcjhfgibmhfaaGreatDoorJStBlk
import Derived.Deep.RegionHeldLaw
import Derived.Deep.Cut
import Derived.Deep.CutBlock
import Derived.Deep.DeepCutAuto
set_option linter.unusedVariables false
set_option linter.unusedSimpArgs false
set_option maxRecDepth 10000
set_option maxHeartbeats 8000000
namespace Go.Proofs.YtdhcjhfgibmhfaaGreatDoor
open Go.RowKit Go.Own Go.Quo Go.Inc
theorem zh {ws:List Nat}(hl:ws.length=64):(zL ws).size=64:=by unfold zL;simp[hl]
theorem zB (ws:List Nat):∀ u∈(zL ws).toList,u.oneCell'=true:=by
 intro u hu
 unfold zL at hu
 simp at hu
 obtain ⟨x,-,rfl⟩:=hu
 rfl
def Q_ (a b:List Nat)(k:Nat):List Nat:=(Zq a b).take k ++ a.drop k
theorem ZP {a b:List Nat}(ha:a.length=64)(hb:b.length=64):(Zq a b).length=64:=by unfold Zq;rw[List.length_zipWith,ha,hb];rfl
theorem Ep {a b:List Nat}(ha:a.length=64)(hb:b.length=64){k:Nat}(hk:k≤64):(Q_ a b k).length=64:=by
 unfold Q_;rw[List.length_append,List.length_take,List.length_drop,ZP ha hb];omega
theorem aC {a b:List Nat}(ha:a.length=64)(hb:b.length=64){k:Nat}(hk:k<64):gw (Q_ a b k) k=gw a k:=by
 have hl:=ZP ha hb
 unfold Q_ gw
 rw[List.getD_eq_getElem?_getD,List.getD_eq_getElem?_getD,List.getElem?_append_right (by rw[List.length_take,hl];omega),List.length_take,hl,show k - min k 64=0 by omega,List.getElem?_drop]
 rfl
theorem Hw {a b:List Nat}(ha:a.length=64)(hb:b.length=64){k:Nat}(hk:k<64):(Q_ a b k).set k (gw a k &&& gw b k)=Q_ a b (k+1):=by
 have hl:=ZP ha hb
 have hv:(Zq a b)[k]'(by omega)=gw a k &&& gw b k:=by
  have:=vO (a:=a) (b:=b) (by omega) k
  unfold gw at this⊢
  rw[←this,List.getD_eq_getElem?_getD,List.getElem?_eq_getElem (show k<(Zq a b).length by omega)];rfl
 unfold Q_
 rw[List.set_append_right _ _ (by rw[List.length_take,hl];omega),List.length_take,hl,show k - min k 64=0 by omega]
 rw[List.drop_eq_getElem_cons (show k<a.length by omega),σb,←hv,List.take_succ_eq_append_getElem (show k<(Zq a b).length by omega),List.append_assoc]
 rfl
theorem gY (a b:List Nat):Q_ a b 0=a:=by unfold Q_;simp
theorem dJ {a b:List Nat}(ha:a.length=64)(hb:b.length=64):Q_ a b 64=Zq a b:=by
 unfold Q_
 rw[List.take_of_length_le (by rw[ZP ha hb];omega),List.drop_of_length_le (by omega),List.append_nil]
theorem bI (x y:Nat)(hx:x<2 ^ 64)(hy:y<2 ^ 64):bits .and .u64 (x:Int) (y:Int)=((x &&& y:Nat):Int):=bits_and_u64_nat _ _ hx hy
theorem dO (g1 g2:Nat)(jR ji:List Nat)(w:World)(h1:WB w g1 jR)(h2:WB w g2 ji)(hl1:jR.length=64)(hl2:ji.length=64)(hv1:∀ i,gw jR i<2 ^ 64)(hv2:∀ i,gw ji i<2 ^ 64) :
 Calls Tryz.prog 170 #[.agg #[.pointer (some ⟨g1,0,none⟩)],.agg #[.pointer (some ⟨g2,0,none⟩)]] w (Dx (Zq jR ji) w):=by
 obtain ⟨W4,GD⟩:∃ W4,W4=((w.alloc (.cells #[.pointer (some ⟨g1,0,none⟩)] 191)).alloc (.cells #[.pointer (some ⟨g2,0,none⟩)] 191)).alloc (.cells #[.pointer none] 191):=⟨_,rfl⟩
 have Zo:=ħ (show zb W4 w.heap.size 191 #[.pointer (some ⟨g1,0,none⟩)] by rw[GD];exact ((zb.new w 191 _).alloc _).alloc _)
 have qx:=ħ (show zb W4 (w.heap.size+1) 191 #[.pointer (some ⟨g2,0,none⟩)] by rw[GD];have:=(zb.new (w.alloc (.cells #[.pointer (some ⟨g1,0,none⟩)] 191)) 191 #[.pointer (some ⟨g2,0,none⟩)]).alloc (.cells #[.pointer none] 191);simpa using this)
 have jv:=ħ (show zb W4 (w.heap.size+2) 191 #[.pointer none] by rw[GD];have:=zb.new ((w.alloc (.cells #[.pointer (some ⟨g1,0,none⟩)] 191)).alloc (.cells #[.pointer (some ⟨g2,0,none⟩)] 191)) 191 #[.pointer none];simpa using this)
 have HA:=ħ (show WB W4 g1 jR by rw[GD];exact ((zb.alloc h1 _).alloc _).alloc _)
 have HB:=ħ (show WB W4 g2 ji by rw[GD];exact ((zb.alloc h2 _).alloc _).alloc _)
 have mW:=ħ (show Below w.heap.size w W4 by rw[GD];exact (((Below.refl w.heap.size w).alloc (Nat.le_refl _) _).alloc (by simp) _).alloc (by simp;omega) _)
 have tZ:=ħ (show W4.heap.size=w.heap.size+3 by rw[GD];simp)
 have pX:=ħ hv1
 have vg:=ħ hv2
 clear h1 h2 hv1 hv2
 go_enter Tryz.func170,Tryz.ntmps170
 go_upto_region 1 with (fail)
 rw[←GD]
 clear GD
 go_cut [5,6] (fun v5 v6 wx=>∃ g5 g6,v5=.pointer (some ⟨g5,0,none⟩)∧v6=.pointer (some ⟨g6,0,none⟩)∧g5≠g6∧W4.heap.size≤g5∧W4.heap.size≤g6∧WB wx g5 jR∧WB wx g6 ji∧Fr (fun _=>False) W4 wx)
 case first=>
  refine qW (S:=fun w'=>Fr (fun _=>False) W4 w') #[{ dst:=some 8,op:=Op.load 191 (Operand.tmp 2),type:=191,pos:= "nodeset.go:86",after:=#[],guard:=none },{ dst:=some 9,op:=Op.call { callee:=Callee.value (Operand.func 193),args:=#[Operand.tmp 8],argTypes:=#[191] },type:=209,pos:= "nodeset.go:86",after:=#[{ on:=0,ground:=Ground.data }],guard:=none },{ dst:=some 10,op:=Op.load 191 (Operand.tmp 3),type:=191,pos:= "nodeset.go:86",after:=#[],guard:=none },{ dst:=some 11,op:=Op.call { callee:=Callee.value (Operand.func 193),args:=#[Operand.tmp 10],argTypes:=#[191] },type:=209,pos:= "nodeset.go:86",after:=#[{ on:=2,ground:=Ground.data },{ on:=1,ground:=Ground.chain }],guard:=none },{ dst:=some 5,op:=Op.alloc 209,type:=0,pos:= "nodeset.go:86",after:=#[],guard:=none },{ dst:=some 6,op:=Op.alloc 209,type:=0,pos:= "nodeset.go:86",after:=#[],guard:=none },{ dst:=none,op:=Op.store 209 (Operand.tmp 5) (Operand.tmp 9),type:=0,pos:= "nodeset.go:86",after:=#[{ on:=4,ground:=Ground.data },{ on:=1,ground:=Ground.data },{ on:=3,ground:=Ground.chain },{ on:=0,ground:=Ground.phase },{ on:=1,ground:=Ground.phase },{ on:=2,ground:=Ground.textOnly Go.Departure.lateStores },{ on:=3,ground:=Ground.phase },{ on:=4,ground:=Ground.phase },{ on:=5,ground:=Ground.phase }],guard:=none }] { dst:=none,op:=Op.store 209 (Operand.tmp 6) (Operand.tmp 11),type:=0,pos:= "nodeset.go:86",after:=#[{ on:=5,ground:=Ground.data },{ on:=3,ground:=Ground.data },{ on:=6,ground:=Ground.chain },{ on:=0,ground:=Ground.phase },{ on:=1,ground:=Ground.phase },{ on:=2,ground:=Ground.phase },{ on:=3,ground:=Ground.phase },{ on:=4,ground:=Ground.phase },{ on:=5,ground:=Ground.phase },{ on:=6,ground:=Ground.phase }],guard:=none } (by rfl) (by kernel_rfl) (by kernel_rfl) ?_ (fun hHeld=>?_)
  ·exact (Fr.refl _ _).drew
  have HR:=ħ hHeld
  generalize W4.drew=wx at *
  refine wpAnyH_take (i:=0) (v:=?v0) rfl (by kernel_rfl) (by kernel_rfl) (by kernel_rfl) (fun _ _ _ h=>h) (Or.inl ⟨by rfl,?hy0⟩) hHeld ?rest0
  case hy0=>
   intro w0 hSw
   obtain ⟨-,hS1,-⟩:=(Zo.out.fr hSw id).facts
   obtain ⟨-,hS2,-⟩:=(qx.out.fr hSw id).facts
   go_simp
   try with_reducible rfl
  try simp only[Act.put,σa,σb,σc]
  refine wpAnyH_take (i:=2) (v:=?v1) rfl (by kernel_rfl) (by kernel_rfl) (by kernel_rfl) (fun _ _ _ h=>h) (Or.inl ⟨by rfl,?hy1⟩) hHeld ?rest1
  case hy1=>
   intro w0 hSw
   obtain ⟨-,hS1,-⟩:=(Zo.out.fr hSw id).facts
   obtain ⟨-,hS2,-⟩:=(qx.out.fr hSw id).facts
   go_simp
   try with_reducible rfl
  try simp only[Act.put,σa,σb,σc]
  refine wpAnyH_ready (rs:=[1,4,5]) (by kernel_rfl) (by simp) ?_
  refine AllReadyH.cons rfl (fun K hK=>?_) ?_
  ·skip
   have Zi:=ħ (show WB wx g1 jR from zb.fr HA.out HR.out id)
   go_simp
   go_wp2_with (go_at_call 193;((with_reducible refine (qO g1 jR _ Zi.out hl1).mono ?_);rintro e wz ⟨rfl,hbz⟩))
   clear Zi
   have HR:=ħ (HR.out.trans (Fr.of_below (hbz) (S:=fun _=>False)))
   try have H5:=ħ (zb.below H5.out hbz H5.out.lt)
   try have H6:=ħ (zb.below H6.out hbz H6.out.lt)
   clear hbz
   obtain ⟨wx,hwx⟩:∃ wx,wx=wz:=⟨_,rfl⟩
   rw[←hwx] at HR⊢
   try rw[←hwx] at H5
   try rw[←hwx] at H6
   clear hwx
   refine hK.out _ _ ?_ (fun hHeld=>?_)
   ·exact HR.out
   clear hK K
   try simp only[Act.put,σa,σb,σc]
   refine wpAnyH_ready (rs:=[3,4,5]) (by kernel_rfl) (by simp) ?_
   refine AllReadyH.cons rfl (fun K hK=>?_) ?_
   ·skip
    have Zi:=ħ (show WB wx g2 ji from zb.fr HB.out HR.out id)
    go_simp
    go_wp2_with (go_at_call 193;((with_reducible refine (qO g2 ji _ Zi.out hl2).mono ?_);rintro e wz ⟨rfl,hbz⟩))
    clear Zi
    have HR:=ħ (HR.out.trans (Fr.of_below (hbz) (S:=fun _=>False)))
    try have H5:=ħ (zb.below H5.out hbz H5.out.lt)
    try have H6:=ħ (zb.below H6.out hbz H6.out.lt)
    clear hbz
    obtain ⟨wx,hwx⟩:∃ wx,wx=wz:=⟨_,rfl⟩
    rw[←hwx] at HR⊢
    try rw[←hwx] at H5
    try rw[←hwx] at H6
    clear hwx
    refine hK.out _ _ ?_ (fun hHeld=>?_)
    ·exact HR.out
    clear hK K
    try simp only[Act.put,σa,σb,σc]
    refine wpAnyH_ready (rs:=[4,5]) (by kernel_rfl) (by simp) ?_
    refine AllReadyH.cons rfl (fun K hK=>?_) ?_
    ·skip
     go_simp
     try have jy:=ħ (show _<wx.heap.size from H6.out.lt)
     have hbn:=zb.new wx 209 (List.replicate 64 (Value.int .u64 0)).toArray
     have hrn:=HR.out.alloc (.cells (List.replicate 64 (Value.int .u64 0)).toArray 209)
     try have H6:=ħ (H6.out.alloc (.cells (List.replicate 64 (Value.int .u64 0)).toArray 209))
     have hge:=HR.out.size
     simp only[List.replicate_succ,List.replicate_zero] at hbn hrn
     try simp only[List.replicate_succ,List.replicate_zero] at H6
     try rw[←J5] at jy
     generalize wx.alloc _=wz at *
     generalize wx.heap.size=g5x at *
     have H5:=ħ hbn
     have Y7:=ħ hge
     have HR:=ħ hrn
     try have jV:=ħ (show g5x≠g6x by have:=jy.out;omega)
     clear hbn hrn hge
     obtain ⟨wx,hwx⟩:∃ wx,wx=wz:=⟨_,rfl⟩
     rw[←hwx] at HR⊢
     try rw[←hwx] at H5
     try rw[←hwx] at H6
     clear hwx
     refine hK.out _ _ ?_ (fun hHeld=>?_)
     ·exact HR.out
     clear hK K
     try simp only[Act.put,σa,σb,σc]
     refine wpAnyH_ready (rs:=[5]) (by kernel_rfl) (by simp) ?_
     refine AllReadyH.cons rfl (fun K hK=>?_) ?_
     ·skip
      go_simp
      try have jy:=ħ (show _<wx.heap.size from H5.out.lt)
      have hbn:=zb.new wx 209 (List.replicate 64 (Value.int .u64 0)).toArray
      have hrn:=HR.out.alloc (.cells (List.replicate 64 (Value.int .u64 0)).toArray 209)
      try have H5:=ħ (H5.out.alloc (.cells (List.replicate 64 (Value.int .u64 0)).toArray 209))
      have hge:=HR.out.size
      simp only[List.replicate_succ,List.replicate_zero] at hbn hrn
      try simp only[List.replicate_succ,List.replicate_zero] at H5
      try rw[←J5] at jy
      generalize wx.alloc _=wz at *
      generalize wx.heap.size=g6x at *
      have H6:=ħ hbn
      have Yj:=ħ hge
      have HR:=ħ hrn
      try have jV:=ħ (show g5x≠g6x by have:=jy.out;omega)
      clear hbn hrn hge
      obtain ⟨wx,hwx⟩:∃ wx,wx=wz:=⟨_,rfl⟩
      rw[←hwx] at HR⊢
      try rw[←hwx] at H5
      try rw[←hwx] at H6
      clear hwx
      refine hK.out _ _ ?_ (fun hHeld=>?_)
      ·exact HR.out
      clear hK K
      try simp only[Act.put,σa,σb,σc]
      refine wpAnyH_ready (rs:=[6]) (by kernel_rfl) (by simp) ?_
      refine AllReadyH.cons rfl (fun K hK=>?_) ?_
      ·skip
       refine zf _ (by rfl) (.tmp 5) (.tmp 9) 209 (by rfl) _ 209 _ (zL jR) _ 64 512 zU (by rfl) (by rfl) (zh hl1).symm H5.out (by rw[zh hl1];rfl) (zB jR) ?_
       intro wz hbz hfz hsz
       have HR:=ħ (HR.out.trans_ hfz (fun i e=>Or.inr (by have:=Y7.out;omega)))
       have H6:=ħ (H6.out.fr hfz (fun e=>jV.out e.symm))
       have H5:=ħ hbz
       clear hbz hfz hsz
       obtain ⟨wx,hwx⟩:∃ wx,wx=wz:=⟨_,rfl⟩
       rw[←hwx] at HR⊢
       try rw[←hwx] at H5
       try rw[←hwx] at H6
       clear hwx
       refine hK.out _ _ ?_ (fun hHeld=>?_)
       ·exact HR.out
       clear hK K
       try simp only[Act.put,σa,σb,σc]
       refine wpAnyH_done (by kernel_rfl) ?_ _
       refine qb _ rfl (fun K hK=>?_)
       refine zf _ (by rfl) (.tmp 6) (.tmp 11) 209 (by rfl) _ 209 _ (zL ji) _ 64 512 zU (by rfl) (by rfl) (zh hl2).symm H6.out (by rw[zh hl2];rfl) (zB ji) ?_
       intro wz hbz hfz hsz
       refine hK _ _ ?_
       simp only[Act.put]
       go_wp2_with fail
       go_meet
       case rel=>exact ⟨_,_,rfl,rfl,jV.out,Y7.out,Yj.out,zb.fr H5.out hfz jV.out,hbz,HR.out.trans_ hfz (fun i e=>Or.inr (by have:=Yj.out;omega))⟩
      exact AllReadyH.nil
     exact AllReadyH.nil
    refine AllReadyH.cons rfl (fun K hK=>?_) ?_
    ·skip
     go_simp
     try have jy:=ħ (show _<wx.heap.size from H5.out.lt)
     have hbn:=zb.new wx 209 (List.replicate 64 (Value.int .u64 0)).toArray
     have hrn:=HR.out.alloc (.cells (List.replicate 64 (Value.int .u64 0)).toArray 209)
     try have H5:=ħ (H5.out.alloc (.cells (List.replicate 64 (Value.int .u64 0)).toArray 209))
     have hge:=HR.out.size
     simp only[List.replicate_succ,List.replicate_zero] at hbn hrn
     try simp only[List.replicate_succ,List.replicate_zero] at H5
     try rw[←J5] at jy
     generalize wx.alloc _=wz at *
     generalize wx.heap.size=g6x at *
     have H6:=ħ hbn
     have Yj:=ħ hge
     have HR:=ħ hrn
     try have jV:=ħ (show g5x≠g6x by have:=jy.out;omega)
     clear hbn hrn hge
     obtain ⟨wx,hwx⟩:∃ wx,wx=wz:=⟨_,rfl⟩
     rw[←hwx] at HR⊢
     try rw[←hwx] at H5
     try rw[←hwx] at H6
     clear hwx
     refine hK.out _ _ ?_ (fun hHeld=>?_)
     ·exact HR.out
     clear hK K
     try simp only[Act.put,σa,σb,σc]
     refine wpAnyH_ready (rs:=[4]) (by kernel_rfl) (by simp) ?_
     refine AllReadyH.cons rfl (fun K hK=>?_) ?_
     ·skip
      go_simp
      try have jy:=ħ (show _<wx.heap.size from H6.out.lt)
      have hbn:=zb.new wx 209 (List.replicate 64 (Value.int .u64 0)).toArray
      have hrn:=HR.out.alloc (.cells (List.replicate 64 (Value.int .u64 0)).toArray 209)
      try have H6:=ħ (H6.out.alloc (.cells (List.replicate 64 (Value.int .u64 0)).toArray 209))
      have hge:=HR.out.size
      simp only[List.replicate_succ,List.replicate_zero] at hbn hrn
      try simp only[List.replicate_succ,List.replicate_zero] at H6
      try rw[←J5] at jy
      generalize wx.alloc _=wz at *
      generalize wx.heap.size=g5x at *
      have H5:=ħ hbn
      have Y7:=ħ hge
      have HR:=ħ hrn
      try have jV:=ħ (show g5x≠g6x by have:=jy.out;omega)
      clear hbn hrn hge
      obtain ⟨wx,hwx⟩:∃ wx,wx=wz:=⟨_,rfl⟩
      rw[←hwx] at HR⊢
      try rw[←hwx] at H5
      try rw[←hwx] at H6
      clear hwx
      refine hK.out _ _ ?_ (fun hHeld=>?_)
      ·exact HR.out
      clear hK K
      try simp only[Act.put,σa,σb,σc]
      refine wpAnyH_ready (rs:=[6]) (by kernel_rfl) (by simp) ?_
      refine AllReadyH.cons rfl (fun K hK=>?_) ?_
      ·skip
       refine zf _ (by rfl) (.tmp 5) (.tmp 9) 209 (by rfl) _ 209 _ (zL jR) _ 64 512 zU (by rfl) (by rfl) (zh hl1).symm H5.out (by rw[zh hl1];rfl) (zB jR) ?_
       intro wz hbz hfz hsz
       have HR:=ħ (HR.out.trans_ hfz (fun i e=>Or.inr (by have:=Y7.out;omega)))
       have H6:=ħ (H6.out.fr hfz (fun e=>jV.out e.symm))
       have H5:=ħ hbz
       clear hbz hfz hsz
       obtain ⟨wx,hwx⟩:∃ wx,wx=wz:=⟨_,rfl⟩
       rw[←hwx] at HR⊢
       try rw[←hwx] at H5
       try rw[←hwx] at H6
       clear hwx
       refine hK.out _ _ ?_ (fun hHeld=>?_)
       ·exact HR.out
       clear hK K
       try simp only[Act.put,σa,σb,σc]
       refine wpAnyH_done (by kernel_rfl) ?_ _
       refine qb _ rfl (fun K hK=>?_)
       refine zf _ (by rfl) (.tmp 6) (.tmp 11) 209 (by rfl) _ 209 _ (zL ji) _ 64 512 zU (by rfl) (by rfl) (zh hl2).symm H6.out (by rw[zh hl2];rfl) (zB ji) ?_
       intro wz hbz hfz hsz
       refine hK _ _ ?_
       simp only[Act.put]
       go_wp2_with fail
       go_meet
       case rel=>exact ⟨_,_,rfl,rfl,jV.out,Y7.out,Yj.out,zb.fr H5.out hfz jV.out,hbz,HR.out.trans_ hfz (fun i e=>Or.inr (by have:=Yj.out;omega))⟩
      exact AllReadyH.nil
     exact AllReadyH.nil
    exact AllReadyH.nil
   refine AllReadyH.cons rfl (fun K hK=>?_) ?_
   ·skip
    go_simp
    try have jy:=ħ (show _<wx.heap.size from H6.out.lt)
    have hbn:=zb.new wx 209 (List.replicate 64 (Value.int .u64 0)).toArray
    have hrn:=HR.out.alloc (.cells (List.replicate 64 (Value.int .u64 0)).toArray 209)
    try have H6:=ħ (H6.out.alloc (.cells (List.replicate 64 (Value.int .u64 0)).toArray 209))
    have hge:=HR.out.size
    simp only[List.replicate_succ,List.replicate_zero] at hbn hrn
    try simp only[List.replicate_succ,List.replicate_zero] at H6
    try rw[←J5] at jy
    generalize wx.alloc _=wz at *
    generalize wx.heap.size=g5x at *
    have H5:=ħ hbn
    have Y7:=ħ hge
    have HR:=ħ hrn
    try have jV:=ħ (show g5x≠g6x by have:=jy.out;omega)
    clear hbn hrn hge
    obtain ⟨wx,hwx⟩:∃ wx,wx=wz:=⟨_,rfl⟩
    rw[←hwx] at HR⊢
    try rw[←hwx] at H5
    try rw[←hwx] at H6
    clear hwx
    refine hK.out _ _ ?_ (fun hHeld=>?_)
    ·exact HR.out
    clear hK K
    try simp only[Act.put,σa,σb,σc]
    refine wpAnyH_ready (rs:=[3,5]) (by kernel_rfl) (by simp) ?_
    refine AllReadyH.cons rfl (fun K hK=>?_) ?_
    ·skip
     have Zi:=ħ (show WB wx g2 ji from zb.fr HB.out HR.out id)
     go_simp
     go_wp2_with (go_at_call 193;((with_reducible refine (qO g2 ji _ Zi.out hl2).mono ?_);rintro e wz ⟨rfl,hbz⟩))
     clear Zi
     have HR:=ħ (HR.out.trans (Fr.of_below (hbz) (S:=fun _=>False)))
     try have H5:=ħ (zb.below H5.out hbz H5.out.lt)
     try have H6:=ħ (zb.below H6.out hbz H6.out.lt)
     clear hbz
     obtain ⟨wx,hwx⟩:∃ wx,wx=wz:=⟨_,rfl⟩
     rw[←hwx] at HR⊢
     try rw[←hwx] at H5
     try rw[←hwx] at H6
     clear hwx
     refine hK.out _ _ ?_ (fun hHeld=>?_)
     ·exact HR.out
     clear hK K
     try simp only[Act.put,σa,σb,σc]
     refine wpAnyH_ready (rs:=[5]) (by kernel_rfl) (by simp) ?_
     refine AllReadyH.cons rfl (fun K hK=>?_) ?_
     ·skip
      go_simp
      try have jy:=ħ (show _<wx.heap.size from H5.out.lt)
      have hbn:=zb.new wx 209 (List.replicate 64 (Value.int .u64 0)).toArray
      have hrn:=HR.out.alloc (.cells (List.replicate 64 (Value.int .u64 0)).toArray 209)
      try have H5:=ħ (H5.out.alloc (.cells (List.replicate 64 (Value.int .u64 0)).toArray 209))
      have hge:=HR.out.size
      simp only[List.replicate_succ,List.replicate_zero] at hbn hrn
      try simp only[List.replicate_succ,List.replicate_zero] at H5
      try rw[←J5] at jy
      generalize wx.alloc _=wz at *
      generalize wx.heap.size=g6x at *
      have H6:=ħ hbn
      have Yj:=ħ hge
      have HR:=ħ hrn
      try have jV:=ħ (show g5x≠g6x by have:=jy.out;omega)
      clear hbn hrn hge
      obtain ⟨wx,hwx⟩:∃ wx,wx=wz:=⟨_,rfl⟩
      rw[←hwx] at HR⊢
      try rw[←hwx] at H5
      try rw[←hwx] at H6
      clear hwx
      refine hK.out _ _ ?_ (fun hHeld=>?_)
      ·exact HR.out
      clear hK K
      try simp only[Act.put,σa,σb,σc]
      refine wpAnyH_ready (rs:=[6]) (by kernel_rfl) (by simp) ?_
      refine AllReadyH.cons rfl (fun K hK=>?_) ?_
      ·skip
       refine zf _ (by rfl) (.tmp 5) (.tmp 9) 209 (by rfl) _ 209 _ (zL jR) _ 64 512 zU (by rfl) (by rfl) (zh hl1).symm H5.out (by rw[zh hl1];rfl) (zB jR) ?_
       intro wz hbz hfz hsz
       have HR:=ħ (HR.out.trans_ hfz (fun i e=>Or.inr (by have:=Y7.out;omega)))
       have H6:=ħ (H6.out.fr hfz (fun e=>jV.out e.symm))
       have H5:=ħ hbz
       clear hbz hfz hsz
       obtain ⟨wx,hwx⟩:∃ wx,wx=wz:=⟨_,rfl⟩
       rw[←hwx] at HR⊢
       try rw[←hwx] at H5
       try rw[←hwx] at H6
       clear hwx
       refine hK.out _ _ ?_ (fun hHeld=>?_)
       ·exact HR.out
       clear hK K
       try simp only[Act.put,σa,σb,σc]
       refine wpAnyH_done (by kernel_rfl) ?_ _
       refine qb _ rfl (fun K hK=>?_)
       refine zf _ (by rfl) (.tmp 6) (.tmp 11) 209 (by rfl) _ 209 _ (zL ji) _ 64 512 zU (by rfl) (by rfl) (zh hl2).symm H6.out (by rw[zh hl2];rfl) (zB ji) ?_
       intro wz hbz hfz hsz
       refine hK _ _ ?_
       simp only[Act.put]
       go_wp2_with fail
       go_meet
       case rel=>exact ⟨_,_,rfl,rfl,jV.out,Y7.out,Yj.out,zb.fr H5.out hfz jV.out,hbz,HR.out.trans_ hfz (fun i e=>Or.inr (by have:=Yj.out;omega))⟩
      exact AllReadyH.nil
     exact AllReadyH.nil
    refine AllReadyH.cons rfl (fun K hK=>?_) ?_
    ·skip
     go_simp
     try have jy:=ħ (show _<wx.heap.size from H5.out.lt)
     have hbn:=zb.new wx 209 (List.replicate 64 (Value.int .u64 0)).toArray
     have hrn:=HR.out.alloc (.cells (List.replicate 64 (Value.int .u64 0)).toArray 209)
     try have H5:=ħ (H5.out.alloc (.cells (List.replicate 64 (Value.int .u64 0)).toArray 209))
     have hge:=HR.out.size
     simp only[List.replicate_succ,List.replicate_zero] at hbn hrn
     try simp only[List.replicate_succ,List.replicate_zero] at H5
     try rw[←J5] at jy
     generalize wx.alloc _=wz at *
     generalize wx.heap.size=g6x at *
     have H6:=ħ hbn
     have Yj:=ħ hge
     have HR:=ħ hrn
     try have jV:=ħ (show g5x≠g6x by have:=jy.out;omega)
     clear hbn hrn hge
     obtain ⟨wx,hwx⟩:∃ wx,wx=wz:=⟨_,rfl⟩
     rw[←hwx] at HR⊢
     try rw[←hwx] at H5
     try rw[←hwx] at H6
     clear hwx
     refine hK.out _ _ ?_ (fun hHeld=>?_)
     ·exact HR.out
     clear hK K
     try simp only[Act.put,σa,σb,σc]
     refine wpAnyH_ready (rs:=[3]) (by kernel_rfl) (by simp) ?_
     refine AllReadyH.cons rfl (fun K hK=>?_) ?_
     ·skip
      have Zi:=ħ (show WB wx g2 ji from zb.fr HB.out HR.out id)
      go_simp
      go_wp2_with (go_at_call 193;((with_reducible refine (qO g2 ji _ Zi.out hl2).mono ?_);rintro e wz ⟨rfl,hbz⟩))
      clear Zi
      have HR:=ħ (HR.out.trans (Fr.of_below (hbz) (S:=fun _=>False)))
      try have H5:=ħ (zb.below H5.out hbz H5.out.lt)
      try have H6:=ħ (zb.below H6.out hbz H6.out.lt)
      clear hbz
      obtain ⟨wx,hwx⟩:∃ wx,wx=wz:=⟨_,rfl⟩
      rw[←hwx] at HR⊢
      try rw[←hwx] at H5
      try rw[←hwx] at H6
      clear hwx
      refine hK.out _ _ ?_ (fun hHeld=>?_)
      ·exact HR.out
      clear hK K
      try simp only[Act.put,σa,σb,σc]
      refine wpAnyH_ready (rs:=[6]) (by kernel_rfl) (by simp) ?_
      refine AllReadyH.cons rfl (fun K hK=>?_) ?_
      ·skip
       refine zf _ (by rfl) (.tmp 5) (.tmp 9) 209 (by rfl) _ 209 _ (zL jR) _ 64 512 zU (by rfl) (by rfl) (zh hl1).symm H5.out (by rw[zh hl1];rfl) (zB jR) ?_
       intro wz hbz hfz hsz
       have HR:=ħ (HR.out.trans_ hfz (fun i e=>Or.inr (by have:=Y7.out;omega)))
       have H6:=ħ (H6.out.fr hfz (fun e=>jV.out e.symm))
       have H5:=ħ hbz
       clear hbz hfz hsz
       obtain ⟨wx,hwx⟩:∃ wx,wx=wz:=⟨_,rfl⟩
       rw[←hwx] at HR⊢
       try rw[←hwx] at H5
       try rw[←hwx] at H6
       clear hwx
       refine hK.out _ _ ?_ (fun hHeld=>?_)
       ·exact HR.out
       clear hK K
       try simp only[Act.put,σa,σb,σc]
       refine wpAnyH_done (by kernel_rfl) ?_ _
       refine qb _ rfl (fun K hK=>?_)
       refine zf _ (by rfl) (.tmp 6) (.tmp 11) 209 (by rfl) _ 209 _ (zL ji) _ 64 512 zU (by rfl) (by rfl) (zh hl2).symm H6.out (by rw[zh hl2];rfl) (zB ji) ?_
       intro wz hbz hfz hsz
       refine hK _ _ ?_
       simp only[Act.put]
       go_wp2_with fail
       go_meet
       case rel=>exact ⟨_,_,rfl,rfl,jV.out,Y7.out,Yj.out,zb.fr H5.out hfz jV.out,hbz,HR.out.trans_ hfz (fun i e=>Or.inr (by have:=Yj.out;omega))⟩
      exact AllReadyH.nil
     exact AllReadyH.nil
    exact AllReadyH.nil
   refine AllReadyH.cons rfl (fun K hK=>?_) ?_
   ·skip
    go_simp
    try have jy:=ħ (show _<wx.heap.size from H5.out.lt)
    have hbn:=zb.new wx 209 (List.replicate 64 (Value.int .u64 0)).toArray
    have hrn:=HR.out.alloc (.cells (List.replicate 64 (Value.int .u64 0)).toArray 209)
    try have H5:=ħ (H5.out.alloc (.cells (List.replicate 64 (Value.int .u64 0)).toArray 209))
    have hge:=HR.out.size
    simp only[List.replicate_succ,List.replicate_zero] at hbn hrn
    try simp only[List.replicate_succ,List.replicate_zero] at H5
    try rw[←J5] at jy
    generalize wx.alloc _=wz at *
    generalize wx.heap.size=g6x at *
    have H6:=ħ hbn
    have Yj:=ħ hge
    have HR:=ħ hrn
    try have jV:=ħ (show g5x≠g6x by have:=jy.out;omega)
    clear hbn hrn hge
    obtain ⟨wx,hwx⟩:∃ wx,wx=wz:=⟨_,rfl⟩
    rw[←hwx] at HR⊢
    try rw[←hwx] at H5
    try rw[←hwx] at H6
    clear hwx
    refine hK.out _ _ ?_ (fun hHeld=>?_)
    ·exact HR.out
    clear hK K
    try simp only[Act.put,σa,σb,σc]
    refine wpAnyH_ready (rs:=[3,4]) (by kernel_rfl) (by simp) ?_
    refine AllReadyH.cons rfl (fun K hK=>?_) ?_
    ·skip
     have Zi:=ħ (show WB wx g2 ji from zb.fr HB.out HR.out id)
     go_simp
     go_wp2_with (go_at_call 193;((with_reducible refine (qO g2 ji _ Zi.out hl2).mono ?_);rintro e wz ⟨rfl,hbz⟩))
     clear Zi
     have HR:=ħ (HR.out.trans (Fr.of_below (hbz) (S:=fun _=>False)))
     try have H5:=ħ (zb.below H5.out hbz H5.out.lt)
     try have H6:=ħ (zb.below H6.out hbz H6.out.lt)
     clear hbz
     obtain ⟨wx,hwx⟩:∃ wx,wx=wz:=⟨_,rfl⟩
     rw[←hwx] at HR⊢
     try rw[←hwx] at H5
     try rw[←hwx] at H6
     clear hwx
     refine hK.out _ _ ?_ (fun hHeld=>?_)
     ·exact HR.out
     clear hK K
     try simp only[Act.put,σa,σb,σc]
     refine wpAnyH_ready (rs:=[4]) (by kernel_rfl) (by simp) ?_
     refine AllReadyH.cons rfl (fun K hK=>?_) ?_
     ·skip
      go_simp
      try have jy:=ħ (show _<wx.heap.size from H6.out.lt)
      have hbn:=zb.new wx 209 (List.replicate 64 (Value.int .u64 0)).toArray
      have hrn:=HR.out.alloc (.cells (List.replicate 64 (Value.int .u64 0)).toArray 209)
      try have H6:=ħ (H6.out.alloc (.cells (List.replicate 64 (Value.int .u64 0)).toArray 209))
      have hge:=HR.out.size
      simp only[List.replicate_succ,List.replicate_zero] at hbn hrn
      try simp only[List.replicate_succ,List.replicate_zero] at H6
      try rw[←J5] at jy
      generalize wx.alloc _=wz at *
      generalize wx.heap.size=g5x at *
      have H5:=ħ hbn
      have Y7:=ħ hge
      have HR:=ħ hrn
      try have jV:=ħ (show g5x≠g6x by have:=jy.out;omega)
      clear hbn hrn hge
      obtain ⟨wx,hwx⟩:∃ wx,wx=wz:=⟨_,rfl⟩
      rw[←hwx] at HR⊢
      try rw[←hwx] at H5
      try rw[←hwx] at H6
      clear hwx
      refine hK.out _ _ ?_ (fun hHeld=>?_)
      ·exact HR.out
      clear hK K
      try simp only[Act.put,σa,σb,σc]
      refine wpAnyH_ready (rs:=[6]) (by kernel_rfl) (by simp) ?_
      refine AllReadyH.cons rfl (fun K hK=>?_) ?_
      ·skip
       refine zf _ (by rfl) (.tmp 5) (.tmp 9) 209 (by rfl) _ 209 _ (zL jR) _ 64 512 zU (by rfl) (by rfl) (zh hl1).symm H5.out (by rw[zh hl1];rfl) (zB jR) ?_
       intro wz hbz hfz hsz
       have HR:=ħ (HR.out.trans_ hfz (fun i e=>Or.inr (by have:=Y7.out;omega)))
       have H6:=ħ (H6.out.fr hfz (fun e=>jV.out e.symm))
       have H5:=ħ hbz
       clear hbz hfz hsz
       obtain ⟨wx,hwx⟩:∃ wx,wx=wz:=⟨_,rfl⟩
       rw[←hwx] at HR⊢
       try rw[←hwx] at H5
       try rw[←hwx] at H6
       clear hwx
       refine hK.out _ _ ?_ (fun hHeld=>?_)
       ·exact HR.out
       clear hK K
       try simp only[Act.put,σa,σb,σc]
       refine wpAnyH_done (by kernel_rfl) ?_ _
       refine qb _ rfl (fun K hK=>?_)
       refine zf _ (by rfl) (.tmp 6) (.tmp 11) 209 (by rfl) _ 209 _ (zL ji) _ 64 512 zU (by rfl) (by rfl) (zh hl2).symm H6.out (by rw[zh hl2];rfl) (zB ji) ?_
       intro wz hbz hfz hsz
       refine hK _ _ ?_
       simp only[Act.put]
       go_wp2_with fail
       go_meet
       case rel=>exact ⟨_,_,rfl,rfl,jV.out,Y7.out,Yj.out,zb.fr H5.out hfz jV.out,hbz,HR.out.trans_ hfz (fun i e=>Or.inr (by have:=Yj.out;omega))⟩
      exact AllReadyH.nil
     exact AllReadyH.nil
    refine AllReadyH.cons rfl (fun K hK=>?_) ?_
    ·skip
     go_simp
     try have jy:=ħ (show _<wx.heap.size from H6.out.lt)
     have hbn:=zb.new wx 209 (List.replicate 64 (Value.int .u64 0)).toArray
     have hrn:=HR.out.alloc (.cells (List.replicate 64 (Value.int .u64 0)).toArray 209)
     try have H6:=ħ (H6.out.alloc (.cells (List.replicate 64 (Value.int .u64 0)).toArray 209))
     have hge:=HR.out.size
     simp only[List.replicate_succ,List.replicate_zero] at hbn hrn
     try simp only[List.replicate_succ,List.replicate_zero] at H6
     try rw[←J5] at jy
     generalize wx.alloc _=wz at *
     generalize wx.heap.size=g5x at *
     have H5:=ħ hbn
     have Y7:=ħ hge
     have HR:=ħ hrn
     try have jV:=ħ (show g5x≠g6x by have:=jy.out;omega)
     clear hbn hrn hge
     obtain ⟨wx,hwx⟩:∃ wx,wx=wz:=⟨_,rfl⟩
     rw[←hwx] at HR⊢
     try rw[←hwx] at H5
     try rw[←hwx] at H6
     clear hwx
     refine hK.out _ _ ?_ (fun hHeld=>?_)
     ·exact HR.out
     clear hK K
     try simp only[Act.put,σa,σb,σc]
     refine wpAnyH_ready (rs:=[3]) (by kernel_rfl) (by simp) ?_
     refine AllReadyH.cons rfl (fun K hK=>?_) ?_
     ·skip
      have Zi:=ħ (show WB wx g2 ji from zb.fr HB.out HR.out id)
      go_simp
      go_wp2_with (go_at_call 193;((with_reducible refine (qO g2 ji _ Zi.out hl2).mono ?_);rintro e wz ⟨rfl,hbz⟩))
      clear Zi
      have HR:=ħ (HR.out.trans (Fr.of_below (hbz) (S:=fun _=>False)))
      try have H5:=ħ (zb.below H5.out hbz H5.out.lt)
      try have H6:=ħ (zb.below H6.out hbz H6.out.lt)
      clear hbz
      obtain ⟨wx,hwx⟩:∃ wx,wx=wz:=⟨_,rfl⟩
      rw[←hwx] at HR⊢
      try rw[←hwx] at H5
      try rw[←hwx] at H6
      clear hwx
      refine hK.out _ _ ?_ (fun hHeld=>?_)
      ·exact HR.out
      clear hK K
      try simp only[Act.put,σa,σb,σc]
      refine wpAnyH_ready (rs:=[6]) (by kernel_rfl) (by simp) ?_
      refine AllReadyH.cons rfl (fun K hK=>?_) ?_
      ·skip
       refine zf _ (by rfl) (.tmp 5) (.tmp 9) 209 (by rfl) _ 209 _ (zL jR) _ 64 512 zU (by rfl) (by rfl) (zh hl1).symm H5.out (by rw[zh hl1];rfl) (zB jR) ?_
       intro wz hbz hfz hsz
       have HR:=ħ (HR.out.trans_ hfz (fun i e=>Or.inr (by have:=Y7.out;omega)))
       have H6:=ħ (H6.out.fr hfz (fun e=>jV.out e.symm))
       have H5:=ħ hbz
       clear hbz hfz hsz
       obtain ⟨wx,hwx⟩:∃ wx,wx=wz:=⟨_,rfl⟩
       rw[←hwx] at HR⊢
       try rw[←hwx] at H5
       try rw[←hwx] at H6
       clear hwx
       refine hK.out _ _ ?_ (fun hHeld=>?_)
       ·exact HR.out
       clear hK K
       try simp only[Act.put,σa,σb,σc]
       refine wpAnyH_done (by kernel_rfl) ?_ _
       refine qb _ rfl (fun K hK=>?_)
       refine zf _ (by rfl) (.tmp 6) (.tmp 11) 209 (by rfl) _ 209 _ (zL ji) _ 64 512 zU (by rfl) (by rfl) (zh hl2).symm H6.out (by rw[zh hl2];rfl) (zB ji) ?_
       intro wz hbz hfz hsz
       refine hK _ _ ?_
       simp only[Act.put]
       go_wp2_with fail
       go_meet
       case rel=>exact ⟨_,_,rfl,rfl,jV.out,Y7.out,Yj.out,zb.fr H5.out hfz jV.out,hbz,HR.out.trans_ hfz (fun i e=>Or.inr (by have:=Yj.out;omega))⟩
      exact AllReadyH.nil
     exact AllReadyH.nil
    exact AllReadyH.nil
   exact AllReadyH.nil
  refine AllReadyH.cons rfl (fun K hK=>?_) ?_
  ·skip
   go_simp
   try have jy:=ħ (show _<wx.heap.size from H6.out.lt)
   have hbn:=zb.new wx 209 (List.replicate 64 (Value.int .u64 0)).toArray
   have hrn:=HR.out.alloc (.cells (List.replicate 64 (Value.int .u64 0)).toArray 209)
   try have H6:=ħ (H6.out.alloc (.cells (List.replicate 64 (Value.int .u64 0)).toArray 209))
   have hge:=HR.out.size
   simp only[List.replicate_succ,List.replicate_zero] at hbn hrn
   try simp only[List.replicate_succ,List.replicate_zero] at H6
   try rw[←J5] at jy
   generalize wx.alloc _=wz at *
   generalize wx.heap.size=g5x at *
   have H5:=ħ hbn
   have Y7:=ħ hge
   have HR:=ħ hrn
   try have jV:=ħ (show g5x≠g6x by have:=jy.out;omega)
   clear hbn hrn hge
   obtain ⟨wx,hwx⟩:∃ wx,wx=wz:=⟨_,rfl⟩
   rw[←hwx] at HR⊢
   try rw[←hwx] at H5
   try rw[←hwx] at H6
   clear hwx
   refine hK.out _ _ ?_ (fun hHeld=>?_)
   ·exact HR.out
   clear hK K
   try simp only[Act.put,σa,σb,σc]
   refine wpAnyH_ready (rs:=[1,5]) (by kernel_rfl) (by simp) ?_
   refine AllReadyH.cons rfl (fun K hK=>?_) ?_
   ·skip
    have Zi:=ħ (show WB wx g1 jR from zb.fr HA.out HR.out id)
    go_simp
    go_wp2_with (go_at_call 193;((with_reducible refine (qO g1 jR _ Zi.out hl1).mono ?_);rintro e wz ⟨rfl,hbz⟩))
    clear Zi
    have HR:=ħ (HR.out.trans (Fr.of_below (hbz) (S:=fun _=>False)))
    try have H5:=ħ (zb.below H5.out hbz H5.out.lt)
    try have H6:=ħ (zb.below H6.out hbz H6.out.lt)
    clear hbz
    obtain ⟨wx,hwx⟩:∃ wx,wx=wz:=⟨_,rfl⟩
    rw[←hwx] at HR⊢
    try rw[←hwx] at H5
    try rw[←hwx] at H6
    clear hwx
    refine hK.out _ _ ?_ (fun hHeld=>?_)
    ·exact HR.out
    clear hK K
    try simp only[Act.put,σa,σb,σc]
    refine wpAnyH_ready (rs:=[3,5]) (by kernel_rfl) (by simp) ?_
    refine AllReadyH.cons rfl (fun K hK=>?_) ?_
    ·skip
     have Zi:=ħ (show WB wx g2 ji from zb.fr HB.out HR.out id)
     go_simp
     go_wp2_with (go_at_call 193;((with_reducible refine (qO g2 ji _ Zi.out hl2).mono ?_);rintro e wz ⟨rfl,hbz⟩))
     clear Zi
     have HR:=ħ (HR.out.trans (Fr.of_below (hbz) (S:=fun _=>False)))
     try have H5:=ħ (zb.below H5.out hbz H5.out.lt)
     try have H6:=ħ (zb.below H6.out hbz H6.out.lt)
     clear hbz
     obtain ⟨wx,hwx⟩:∃ wx,wx=wz:=⟨_,rfl⟩
     rw[←hwx] at HR⊢
     try rw[←hwx] at H5
     try rw[←hwx] at H6
     clear hwx
     refine hK.out _ _ ?_ (fun hHeld=>?_)
     ·exact HR.out
     clear hK K
     try simp only[Act.put,σa,σb,σc]
     refine wpAnyH_ready (rs:=[5]) (by kernel_rfl) (by simp) ?_
     refine AllReadyH.cons rfl (fun K hK=>?_) ?_
     ·skip
      go_simp
      try have jy:=ħ (show _<wx.heap.size from H5.out.lt)
      have hbn:=zb.new wx 209 (List.replicate 64 (Value.int .u64 0)).toArray
      have hrn:=HR.out.alloc (.cells (List.replicate 64 (Value.int .u64 0)).toArray 209)
      try have H5:=ħ (H5.out.alloc (.cells (List.replicate 64 (Value.int .u64 0)).toArray 209))
      have hge:=HR.out.size
      simp only[List.replicate_succ,List.replicate_zero] at hbn hrn
      try simp only[List.replicate_succ,List.replicate_zero] at H5
      try rw[←J5] at jy
      generalize wx.alloc _=wz at *
      generalize wx.heap.size=g6x at *
      have H6:=ħ hbn
      have Yj:=ħ hge
      have HR:=ħ hrn
      try have jV:=ħ (show g5x≠g6x by have:=jy.out;omega)
      clear hbn hrn hge
      obtain ⟨wx,hwx⟩:∃ wx,wx=wz:=⟨_,rfl⟩
      rw[←hwx] at HR⊢
      try rw[←hwx] at H5
      try rw[←hwx] at H6
      clear hwx
      refine hK.out _ _ ?_ (fun hHeld=>?_)
      ·exact HR.out
      clear hK K
      try simp only[Act.put,σa,σb,σc]
      refine wpAnyH_ready (rs:=[6]) (by kernel_rfl) (by simp) ?_
      refine AllReadyH.cons rfl (fun K hK=>?_) ?_
      ·skip
       refine zf _ (by rfl) (.tmp 5) (.tmp 9) 209 (by rfl) _ 209 _ (zL jR) _ 64 512 zU (by rfl) (by rfl) (zh hl1).symm H5.out (by rw[zh hl1];rfl) (zB jR) ?_
       intro wz hbz hfz hsz
       have HR:=ħ (HR.out.trans_ hfz (fun i e=>Or.inr (by have:=Y7.out;omega)))
       have H6:=ħ (H6.out.fr hfz (fun e=>jV.out e.symm))
       have H5:=ħ hbz
       clear hbz hfz hsz
       obtain ⟨wx,hwx⟩:∃ wx,wx=wz:=⟨_,rfl⟩
       rw[←hwx] at HR⊢
       try rw[←hwx] at H5
       try rw[←hwx] at H6
       clear hwx
       refine hK.out _ _ ?_ (fun hHeld=>?_)
       ·exact HR.out
       clear hK K
       try simp only[Act.put,σa,σb,σc]
       refine wpAnyH_done (by kernel_rfl) ?_ _
       refine qb _ rfl (fun K hK=>?_)
       refine zf _ (by rfl) (.tmp 6) (.tmp 11) 209 (by rfl) _ 209 _ (zL ji) _ 64 512 zU (by rfl) (by rfl) (zh hl2).symm H6.out (by rw[zh hl2];rfl) (zB ji) ?_
       intro wz hbz hfz hsz
       refine hK _ _ ?_
       simp only[Act.put]
       go_wp2_with fail
       go_meet
       case rel=>exact ⟨_,_,rfl,rfl,jV.out,Y7.out,Yj.out,zb.fr H5.out hfz jV.out,hbz,HR.out.trans_ hfz (fun i e=>Or.inr (by have:=Yj.out;omega))⟩
      exact AllReadyH.nil
     exact AllReadyH.nil
    refine AllReadyH.cons rfl (fun K hK=>?_) ?_
    ·skip
     go_simp
     try have jy:=ħ (show _<wx.heap.size from H5.out.lt)
     have hbn:=zb.new wx 209 (List.replicate 64 (Value.int .u64 0)).toArray
     have hrn:=HR.out.alloc (.cells (List.replicate 64 (Value.int .u64 0)).toArray 209)
     try have H5:=ħ (H5.out.alloc (.cells (List.replicate 64 (Value.int .u64 0)).toArray 209))
     have hge:=HR.out.size
     simp only[List.replicate_succ,List.replicate_zero] at hbn hrn
     try simp only[List.replicate_succ,List.replicate_zero] at H5
     try rw[←J5] at jy
     generalize wx.alloc _=wz at *
     generalize wx.heap.size=g6x at *
     have H6:=ħ hbn
     have Yj:=ħ hge
     have HR:=ħ hrn
     try have jV:=ħ (show g5x≠g6x by have:=jy.out;omega)
     clear hbn hrn hge
     obtain ⟨wx,hwx⟩:∃ wx,wx=wz:=⟨_,rfl⟩
     rw[←hwx] at HR⊢
     try rw[←hwx] at H5
     try rw[←hwx] at H6
     clear hwx
     refine hK.out _ _ ?_ (fun hHeld=>?_)
     ·exact HR.out
     clear hK K
     try simp only[Act.put,σa,σb,σc]
     refine wpAnyH_ready (rs:=[3]) (by kernel_rfl) (by simp) ?_
     refine AllReadyH.cons rfl (fun K hK=>?_) ?_
     ·skip
      have Zi:=ħ (show WB wx g2 ji from zb.fr HB.out HR.out id)
      go_simp
      go_wp2_with (go_at_call 193;((with_reducible refine (qO g2 ji _ Zi.out hl2).mono ?_);rintro e wz ⟨rfl,hbz⟩))
      clear Zi
      have HR:=ħ (HR.out.trans (Fr.of_below (hbz) (S:=fun _=>False)))
      try have H5:=ħ (zb.below H5.out hbz H5.out.lt)
      try have H6:=ħ (zb.below H6.out hbz H6.out.lt)
      clear hbz
      obtain ⟨wx,hwx⟩:∃ wx,wx=wz:=⟨_,rfl⟩
      rw[←hwx] at HR⊢
      try rw[←hwx] at H5
      try rw[←hwx] at H6
      clear hwx
      refine hK.out _ _ ?_ (fun hHeld=>?_)
      ·exact HR.out
      clear hK K
      try simp only[Act.put,σa,σb,σc]
      refine wpAnyH_ready (rs:=[6]) (by kernel_rfl) (by simp) ?_
      refine AllReadyH.cons rfl (fun K hK=>?_) ?_
      ·skip
       refine zf _ (by rfl) (.tmp 5) (.tmp 9) 209 (by rfl) _ 209 _ (zL jR) _ 64 512 zU (by rfl) (by rfl) (zh hl1).symm H5.out (by rw[zh hl1];rfl) (zB jR) ?_
       intro wz hbz hfz hsz
       have HR:=ħ (HR.out.trans_ hfz (fun i e=>Or.inr (by have:=Y7.out;omega)))
       have H6:=ħ (H6.out.fr hfz (fun e=>jV.out e.symm))
       have H5:=ħ hbz
       clear hbz hfz hsz
       obtain ⟨wx,hwx⟩:∃ wx,wx=wz:=⟨_,rfl⟩
       rw[←hwx] at HR⊢
       try rw[←hwx] at H5
       try rw[←hwx] at H6
       clear hwx
       refine hK.out _ _ ?_ (fun hHeld=>?_)
       ·exact HR.out
       clear hK K
       try simp only[Act.put,σa,σb,σc]
       refine wpAnyH_done (by kernel_rfl) ?_ _
       refine qb _ rfl (fun K hK=>?_)
       refine zf _ (by rfl) (.tmp 6) (.tmp 11) 209 (by rfl) _ 209 _ (zL ji) _ 64 512 zU (by rfl) (by rfl) (zh hl2).symm H6.out (by rw[zh hl2];rfl) (zB ji) ?_
       intro wz hbz hfz hsz
       refine hK _ _ ?_
       simp only[Act.put]
       go_wp2_with fail
       go_meet
       case rel=>exact ⟨_,_,rfl,rfl,jV.out,Y7.out,Yj.out,zb.fr H5.out hfz jV.out,hbz,HR.out.trans_ hfz (fun i e=>Or.inr (by have:=Yj.out;omega))⟩
      exact AllReadyH.nil
     exact AllReadyH.nil
    exact AllReadyH.nil
   refine AllReadyH.cons rfl (fun K hK=>?_) ?_
   ·skip
    go_simp
    try have jy:=ħ (show _<wx.heap.size from H5.out.lt)
    have hbn:=zb.new wx 209 (List.replicate 64 (Value.int .u64 0)).toArray
    have hrn:=HR.out.alloc (.cells (List.replicate 64 (Value.int .u64 0)).toArray 209)
    try have H5:=ħ (H5.out.alloc (.cells (List.replicate 64 (Value.int .u64 0)).toArray 209))
    have hge:=HR.out.size
    simp only[List.replicate_succ,List.replicate_zero] at hbn hrn
    try simp only[List.replicate_succ,List.replicate_zero] at H5
    try rw[←J5] at jy
    generalize wx.alloc _=wz at *
    generalize wx.heap.size=g6x at *
    have H6:=ħ hbn
    have Yj:=ħ hge
    have HR:=ħ hrn
    try have jV:=ħ (show g5x≠g6x by have:=jy.out;omega)
    clear hbn hrn hge
    obtain ⟨wx,hwx⟩:∃ wx,wx=wz:=⟨_,rfl⟩
    rw[←hwx] at HR⊢
    try rw[←hwx] at H5
    try rw[←hwx] at H6
    clear hwx
    refine hK.out _ _ ?_ (fun hHeld=>?_)
    ·exact HR.out
    clear hK K
    try simp only[Act.put,σa,σb,σc]
    refine wpAnyH_ready (rs:=[1]) (by kernel_rfl) (by simp) ?_
    refine AllReadyH.cons rfl (fun K hK=>?_) ?_
    ·skip
     have Zi:=ħ (show WB wx g1 jR from zb.fr HA.out HR.out id)
     go_simp
     go_wp2_with (go_at_call 193;((with_reducible refine (qO g1 jR _ Zi.out hl1).mono ?_);rintro e wz ⟨rfl,hbz⟩))
     clear Zi
     have HR:=ħ (HR.out.trans (Fr.of_below (hbz) (S:=fun _=>False)))
     try have H5:=ħ (zb.below H5.out hbz H5.out.lt)
     try have H6:=ħ (zb.below H6.out hbz H6.out.lt)
     clear hbz
     obtain ⟨wx,hwx⟩:∃ wx,wx=wz:=⟨_,rfl⟩
     rw[←hwx] at HR⊢
     try rw[←hwx] at H5
     try rw[←hwx] at H6
     clear hwx
     refine hK.out _ _ ?_ (fun hHeld=>?_)
     ·exact HR.out
     clear hK K
     try simp only[Act.put,σa,σb,σc]
     refine wpAnyH_ready (rs:=[3]) (by kernel_rfl) (by simp) ?_
     refine AllReadyH.cons rfl (fun K hK=>?_) ?_
     ·skip
      have Zi:=ħ (show WB wx g2 ji from zb.fr HB.out HR.out id)
      go_simp
      go_wp2_with (go_at_call 193;((with_reducible refine (qO g2 ji _ Zi.out hl2).mono ?_);rintro e wz ⟨rfl,hbz⟩))
      clear Zi
      have HR:=ħ (HR.out.trans (Fr.of_below (hbz) (S:=fun _=>False)))
      try have H5:=ħ (zb.below H5.out hbz H5.out.lt)
      try have H6:=ħ (zb.below H6.out hbz H6.out.lt)
      clear hbz
      obtain ⟨wx,hwx⟩:∃ wx,wx=wz:=⟨_,rfl⟩
      rw[←hwx] at HR⊢
      try rw[←hwx] at H5
      try rw[←hwx] at H6
      clear hwx
      refine hK.out _ _ ?_ (fun hHeld=>?_)
      ·exact HR.out
      clear hK K
      try simp only[Act.put,σa,σb,σc]
      refine wpAnyH_ready (rs:=[6]) (by kernel_rfl) (by simp) ?_
      refine AllReadyH.cons rfl (fun K hK=>?_) ?_
      ·skip
       refine zf _ (by rfl) (.tmp 5) (.tmp 9) 209 (by rfl) _ 209 _ (zL jR) _ 64 512 zU (by rfl) (by rfl) (zh hl1).symm H5.out (by rw[zh hl1];rfl) (zB jR) ?_
       intro wz hbz hfz hsz
       have HR:=ħ (HR.out.trans_ hfz (fun i e=>Or.inr (by have:=Y7.out;omega)))
       have H6:=ħ (H6.out.fr hfz (fun e=>jV.out e.symm))
       have H5:=ħ hbz
       clear hbz hfz hsz
       obtain ⟨wx,hwx⟩:∃ wx,wx=wz:=⟨_,rfl⟩
       rw[←hwx] at HR⊢
       try rw[←hwx] at H5
       try rw[←hwx] at H6
       clear hwx
       refine hK.out _ _ ?_ (fun hHeld=>?_)
       ·exact HR.out
       clear hK K
       try simp only[Act.put,σa,σb,σc]
       refine wpAnyH_done (by kernel_rfl) ?_ _
       refine qb _ rfl (fun K hK=>?_)
       refine zf _ (by rfl) (.tmp 6) (.tmp 11) 209 (by rfl) _ 209 _ (zL ji) _ 64 512 zU (by rfl) (by rfl) (zh hl2).symm H6.out (by rw[zh hl2];rfl) (zB ji) ?_
       intro wz hbz hfz hsz
       refine hK _ _ ?_
       simp only[Act.put]
       go_wp2_with fail
       go_meet
       case rel=>exact ⟨_,_,rfl,rfl,jV.out,Y7.out,Yj.out,zb.fr H5.out hfz jV.out,hbz,HR.out.trans_ hfz (fun i e=>Or.inr (by have:=Yj.out;omega))⟩
      exact AllReadyH.nil
     exact AllReadyH.nil
    exact AllReadyH.nil
   exact AllReadyH.nil
  refine AllReadyH.cons rfl (fun K hK=>?_) ?_
  ·skip
   go_simp
   try have jy:=ħ (show _<wx.heap.size from H5.out.lt)
   have hbn:=zb.new wx 209 (List.replicate 64 (Value.int .u64 0)).toArray
   have hrn:=HR.out.alloc (.cells (List.replicate 64 (Value.int .u64 0)).toArray 209)
   try have H5:=ħ (H5.out.alloc (.cells (List.replicate 64 (Value.int .u64 0)).toArray 209))
   have hge:=HR.out.size
   simp only[List.replicate_succ,List.replicate_zero] at hbn hrn
   try simp only[List.replicate_succ,List.replicate_zero] at H5
   try rw[←J5] at jy
   generalize wx.alloc _=wz at *
   generalize wx.heap.size=g6x at *
   have H6:=ħ hbn
   have Yj:=ħ hge
   have HR:=ħ hrn
   try have jV:=ħ (show g5x≠g6x by have:=jy.out;omega)
   clear hbn hrn hge
   obtain ⟨wx,hwx⟩:∃ wx,wx=wz:=⟨_,rfl⟩
   rw[←hwx] at HR⊢
   try rw[←hwx] at H5
   try rw[←hwx] at H6
   clear hwx
   refine hK.out _ _ ?_ (fun hHeld=>?_)
   ·exact HR.out
   clear hK K
   try simp only[Act.put,σa,σb,σc]
   refine wpAnyH_ready (rs:=[1,4]) (by kernel_rfl) (by simp) ?_
   refine AllReadyH.cons rfl (fun K hK=>?_) ?_
   ·skip
    have Zi:=ħ (show WB wx g1 jR from zb.fr HA.out HR.out id)
    go_simp
    go_wp2_with (go_at_call 193;((with_reducible refine (qO g1 jR _ Zi.out hl1).mono ?_);rintro e wz ⟨rfl,hbz⟩))
    clear Zi
    have HR:=ħ (HR.out.trans (Fr.of_below (hbz) (S:=fun _=>False)))
    try have H5:=ħ (zb.below H5.out hbz H5.out.lt)
    try have H6:=ħ (zb.below H6.out hbz H6.out.lt)
    clear hbz
    obtain ⟨wx,hwx⟩:∃ wx,wx=wz:=⟨_,rfl⟩
    rw[←hwx] at HR⊢
    try rw[←hwx] at H5
    try rw[←hwx] at H6
    clear hwx
    refine hK.out _ _ ?_ (fun hHeld=>?_)
    ·exact HR.out
    clear hK K
    try simp only[Act.put,σa,σb,σc]
    refine wpAnyH_ready (rs:=[3,4]) (by kernel_rfl) (by simp) ?_
    refine AllReadyH.cons rfl (fun K hK=>?_) ?_
    ·skip
     have Zi:=ħ (show WB wx g2 ji from zb.fr HB.out HR.out id)
     go_simp
     go_wp2_with (go_at_call 193;((with_reducible refine (qO g2 ji _ Zi.out hl2).mono ?_);rintro e wz ⟨rfl,hbz⟩))
     clear Zi
     have HR:=ħ (HR.out.trans (Fr.of_below (hbz) (S:=fun _=>False)))
     try have H5:=ħ (zb.below H5.out hbz H5.out.lt)
     try have H6:=ħ (zb.below H6.out hbz H6.out.lt)
     clear hbz
     obtain ⟨wx,hwx⟩:∃ wx,wx=wz:=⟨_,rfl⟩
     rw[←hwx] at HR⊢
     try rw[←hwx] at H5
     try rw[←hwx] at H6
     clear hwx
     refine hK.out _ _ ?_ (fun hHeld=>?_)
     ·exact HR.out
     clear hK K
     try simp only[Act.put,σa,σb,σc]
     refine wpAnyH_ready (rs:=[4]) (by kernel_rfl) (by simp) ?_
     refine AllReadyH.cons rfl (fun K hK=>?_) ?_
     ·skip
      go_simp
      try have jy:=ħ (show _<wx.heap.size from H6.out.lt)
      have hbn:=zb.new wx 209 (List.replicate 64 (Value.int .u64 0)).toArray
      have hrn:=HR.out.alloc (.cells (List.replicate 64 (Value.int .u64 0)).toArray 209)
      try have H6:=ħ (H6.out.alloc (.cells (List.replicate 64 (Value.int .u64 0)).toArray 209))
      have hge:=HR.out.size
      simp only[List.replicate_succ,List.replicate_zero] at hbn hrn
      try simp only[List.replicate_succ,List.replicate_zero] at H6
      try rw[←J5] at jy
      generalize wx.alloc _=wz at *
      generalize wx.heap.size=g5x at *
      have H5:=ħ hbn
      have Y7:=ħ hge
      have HR:=ħ hrn
      try have jV:=ħ (show g5x≠g6x by have:=jy.out;omega)
      clear hbn hrn hge
      obtain ⟨wx,hwx⟩:∃ wx,wx=wz:=⟨_,rfl⟩
      rw[←hwx] at HR⊢
      try rw[←hwx] at H5
      try rw[←hwx] at H6
      clear hwx
      refine hK.out _ _ ?_ (fun hHeld=>?_)
      ·exact HR.out
      clear hK K
      try simp only[Act.put,σa,σb,σc]
      refine wpAnyH_ready (rs:=[6]) (by kernel_rfl) (by simp) ?_
      refine AllReadyH.cons rfl (fun K hK=>?_) ?_
      ·skip
       refine zf _ (by rfl) (.tmp 5) (.tmp 9) 209 (by rfl) _ 209 _ (zL jR) _ 64 512 zU (by rfl) (by rfl) (zh hl1).symm H5.out (by rw[zh hl1];rfl) (zB jR) ?_
       intro wz hbz hfz hsz
       have HR:=ħ (HR.out.trans_ hfz (fun i e=>Or.inr (by have:=Y7.out;omega)))
       have H6:=ħ (H6.out.fr hfz (fun e=>jV.out e.symm))
       have H5:=ħ hbz
       clear hbz hfz hsz
       obtain ⟨wx,hwx⟩:∃ wx,wx=wz:=⟨_,rfl⟩
       rw[←hwx] at HR⊢
       try rw[←hwx] at H5
       try rw[←hwx] at H6
       clear hwx
       refine hK.out _ _ ?_ (fun hHeld=>?_)
       ·exact HR.out
       clear hK K
       try simp only[Act.put,σa,σb,σc]
       refine wpAnyH_done (by kernel_rfl) ?_ _
       refine qb _ rfl (fun K hK=>?_)
       refine zf _ (by rfl) (.tmp 6) (.tmp 11) 209 (by rfl) _ 209 _ (zL ji) _ 64 512 zU (by rfl) (by rfl) (zh hl2).symm H6.out (by rw[zh hl2];rfl) (zB ji) ?_
       intro wz hbz hfz hsz
       refine hK _ _ ?_
       simp only[Act.put]
       go_wp2_with fail
       go_meet
       case rel=>exact ⟨_,_,rfl,rfl,jV.out,Y7.out,Yj.out,zb.fr H5.out hfz jV.out,hbz,HR.out.trans_ hfz (fun i e=>Or.inr (by have:=Yj.out;omega))⟩
      exact AllReadyH.nil
     exact AllReadyH.nil
    refine AllReadyH.cons rfl (fun K hK=>?_) ?_
    ·skip
     go_simp
     try have jy:=ħ (show _<wx.heap.size from H6.out.lt)
     have hbn:=zb.new wx 209 (List.replicate 64 (Value.int .u64 0)).toArray
     have hrn:=HR.out.alloc (.cells (List.replicate 64 (Value.int .u64 0)).toArray 209)
     try have H6:=ħ (H6.out.alloc (.cells (List.replicate 64 (Value.int .u64 0)).toArray 209))
     have hge:=HR.out.size
     simp only[List.replicate_succ,List.replicate_zero] at hbn hrn
     try simp only[List.replicate_succ,List.replicate_zero] at H6
     try rw[←J5] at jy
     generalize wx.alloc _=wz at *
     generalize wx.heap.size=g5x at *
     have H5:=ħ hbn
     have Y7:=ħ hge
     have HR:=ħ hrn
     try have jV:=ħ (show g5x≠g6x by have:=jy.out;omega)
     clear hbn hrn hge
     obtain ⟨wx,hwx⟩:∃ wx,wx=wz:=⟨_,rfl⟩
     rw[←hwx] at HR⊢
     try rw[←hwx] at H5
     try rw[←hwx] at H6
     clear hwx
     refine hK.out _ _ ?_ (fun hHeld=>?_)
     ·exact HR.out
     clear hK K
     try simp only[Act.put,σa,σb,σc]
     refine wpAnyH_ready (rs:=[3]) (by kernel_rfl) (by simp) ?_
     refine AllReadyH.cons rfl (fun K hK=>?_) ?_
     ·skip
      have Zi:=ħ (show WB wx g2 ji from zb.fr HB.out HR.out id)
      go_simp
      go_wp2_with (go_at_call 193;((with_reducible refine (qO g2 ji _ Zi.out hl2).mono ?_);rintro e wz ⟨rfl,hbz⟩))
      clear Zi
      have HR:=ħ (HR.out.trans (Fr.of_below (hbz) (S:=fun _=>False)))
      try have H5:=ħ (zb.below H5.out hbz H5.out.lt)
      try have H6:=ħ (zb.below H6.out hbz H6.out.lt)
      clear hbz
      obtain ⟨wx,hwx⟩:∃ wx,wx=wz:=⟨_,rfl⟩
      rw[←hwx] at HR⊢
      try rw[←hwx] at H5
      try rw[←hwx] at H6
      clear hwx
      refine hK.out _ _ ?_ (fun hHeld=>?_)
      ·exact HR.out
      clear hK K
      try simp only[Act.put,σa,σb,σc]
      refine wpAnyH_ready (rs:=[6]) (by kernel_rfl) (by simp) ?_
      refine AllReadyH.cons rfl (fun K hK=>?_) ?_
      ·skip
       refine zf _ (by rfl) (.tmp 5) (.tmp 9) 209 (by rfl) _ 209 _ (zL jR) _ 64 512 zU (by rfl) (by rfl) (zh hl1).symm H5.out (by rw[zh hl1];rfl) (zB jR) ?_
       intro wz hbz hfz hsz
       have HR:=ħ (HR.out.trans_ hfz (fun i e=>Or.inr (by have:=Y7.out;omega)))
       have H6:=ħ (H6.out.fr hfz (fun e=>jV.out e.symm))
       have H5:=ħ hbz
       clear hbz hfz hsz
       obtain ⟨wx,hwx⟩:∃ wx,wx=wz:=⟨_,rfl⟩
       rw[←hwx] at HR⊢
       try rw[←hwx] at H5
       try rw[←hwx] at H6
       clear hwx
       refine hK.out _ _ ?_ (fun hHeld=>?_)
       ·exact HR.out
       clear hK K
       try simp only[Act.put,σa,σb,σc]
       refine wpAnyH_done (by kernel_rfl) ?_ _
       refine qb _ rfl (fun K hK=>?_)
       refine zf _ (by rfl) (.tmp 6) (.tmp 11) 209 (by rfl) _ 209 _ (zL ji) _ 64 512 zU (by rfl) (by rfl) (zh hl2).symm H6.out (by rw[zh hl2];rfl) (zB ji) ?_
       intro wz hbz hfz hsz
       refine hK _ _ ?_
       simp only[Act.put]
       go_wp2_with fail
       go_meet
       case rel=>exact ⟨_,_,rfl,rfl,jV.out,Y7.out,Yj.out,zb.fr H5.out hfz jV.out,hbz,HR.out.trans_ hfz (fun i e=>Or.inr (by have:=Yj.out;omega))⟩
      exact AllReadyH.nil
     exact AllReadyH.nil
    exact AllReadyH.nil
   refine AllReadyH.cons rfl (fun K hK=>?_) ?_
   ·skip
    go_simp
    try have jy:=ħ (show _<wx.heap.size from H6.out.lt)
    have hbn:=zb.new wx 209 (List.replicate 64 (Value.int .u64 0)).toArray
    have hrn:=HR.out.alloc (.cells (List.replicate 64 (Value.int .u64 0)).toArray 209)
    try have H6:=ħ (H6.out.alloc (.cells (List.replicate 64 (Value.int .u64 0)).toArray 209))
    have hge:=HR.out.size
    simp only[List.replicate_succ,List.replicate_zero] at hbn hrn
    try simp only[List.replicate_succ,List.replicate_zero] at H6
    try rw[←J5] at jy
    generalize wx.alloc _=wz at *
    generalize wx.heap.size=g5x at *
    have H5:=ħ hbn
    have Y7:=ħ hge
    have HR:=ħ hrn
    try have jV:=ħ (show g5x≠g6x by have:=jy.out;omega)
    clear hbn hrn hge
    obtain ⟨wx,hwx⟩:∃ wx,wx=wz:=⟨_,rfl⟩
    rw[←hwx] at HR⊢
    try rw[←hwx] at H5
    try rw[←hwx] at H6
    clear hwx
    refine hK.out _ _ ?_ (fun hHeld=>?_)
    ·exact HR.out
    clear hK K
    try simp only[Act.put,σa,σb,σc]
    refine wpAnyH_ready (rs:=[1]) (by kernel_rfl) (by simp) ?_
    refine AllReadyH.cons rfl (fun K hK=>?_) ?_
    ·skip
     have Zi:=ħ (show WB wx g1 jR from zb.fr HA.out HR.out id)
     go_simp
     go_wp2_with (go_at_call 193;((with_reducible refine (qO g1 jR _ Zi.out hl1).mono ?_);rintro e wz ⟨rfl,hbz⟩))
     clear Zi
     have HR:=ħ (HR.out.trans (Fr.of_below (hbz) (S:=fun _=>False)))
     try have H5:=ħ (zb.below H5.out hbz H5.out.lt)
     try have H6:=ħ (zb.below H6.out hbz H6.out.lt)
     clear hbz
     obtain ⟨wx,hwx⟩:∃ wx,wx=wz:=⟨_,rfl⟩
     rw[←hwx] at HR⊢
     try rw[←hwx] at H5
     try rw[←hwx] at H6
     clear hwx
     refine hK.out _ _ ?_ (fun hHeld=>?_)
     ·exact HR.out
     clear hK K
     try simp only[Act.put,σa,σb,σc]
     refine wpAnyH_ready (rs:=[3]) (by kernel_rfl) (by simp) ?_
     refine AllReadyH.cons rfl (fun K hK=>?_) ?_
     ·skip
      have Zi:=ħ (show WB wx g2 ji from zb.fr HB.out HR.out id)
      go_simp
      go_wp2_with (go_at_call 193;((with_reducible refine (qO g2 ji _ Zi.out hl2).mono ?_);rintro e wz ⟨rfl,hbz⟩))
      clear Zi
      have HR:=ħ (HR.out.trans (Fr.of_below (hbz) (S:=fun _=>False)))
      try have H5:=ħ (zb.below H5.out hbz H5.out.lt)
      try have H6:=ħ (zb.below H6.out hbz H6.out.lt)
      clear hbz
      obtain ⟨wx,hwx⟩:∃ wx,wx=wz:=⟨_,rfl⟩
      rw[←hwx] at HR⊢
      try rw[←hwx] at H5
      try rw[←hwx] at H6
      clear hwx
      refine hK.out _ _ ?_ (fun hHeld=>?_)
      ·exact HR.out
      clear hK K
      try simp only[Act.put,σa,σb,σc]
      refine wpAnyH_ready (rs:=[6]) (by kernel_rfl) (by simp) ?_
      refine AllReadyH.cons rfl (fun K hK=>?_) ?_
      ·skip
       refine zf _ (by rfl) (.tmp 5) (.tmp 9) 209 (by rfl) _ 209 _ (zL jR) _ 64 512 zU (by rfl) (by rfl) (zh hl1).symm H5.out (by rw[zh hl1];rfl) (zB jR) ?_
       intro wz hbz hfz hsz
       have HR:=ħ (HR.out.trans_ hfz (fun i e=>Or.inr (by have:=Y7.out;omega)))
       have H6:=ħ (H6.out.fr hfz (fun e=>jV.out e.symm))
       have H5:=ħ hbz
       clear hbz hfz hsz
       obtain ⟨wx,hwx⟩:∃ wx,wx=wz:=⟨_,rfl⟩
       rw[←hwx] at HR⊢
       try rw[←hwx] at H5
       try rw[←hwx] at H6
       clear hwx
       refine hK.out _ _ ?_ (fun hHeld=>?_)
       ·exact HR.out
       clear hK K
       try simp only[Act.put,σa,σb,σc]
       refine wpAnyH_done (by kernel_rfl) ?_ _
       refine qb _ rfl (fun K hK=>?_)
       refine zf _ (by rfl) (.tmp 6) (.tmp 11) 209 (by rfl) _ 209 _ (zL ji) _ 64 512 zU (by rfl) (by rfl) (zh hl2).symm H6.out (by rw[zh hl2];rfl) (zB ji) ?_
       intro wz hbz hfz hsz
       refine hK _ _ ?_
       simp only[Act.put]
       go_wp2_with fail
       go_meet
       case rel=>exact ⟨_,_,rfl,rfl,jV.out,Y7.out,Yj.out,zb.fr H5.out hfz jV.out,hbz,HR.out.trans_ hfz (fun i e=>Or.inr (by have:=Yj.out;omega))⟩
      exact AllReadyH.nil
     exact AllReadyH.nil
    exact AllReadyH.nil
   exact AllReadyH.nil
  exact AllReadyH.nil
 case rest=>
  obtain ⟨g5,g6,rfl,rfl,hne,hg5,ND,pR,nY,hfr⟩:=hcut
  have hW:=tZ.out
  have GH:=ħ (show WB wc g5 (Q_ jR ji 0) by rw[gY];exact pR)
  have Zm:=ħ nY
  have HX:=ħ (zb.fr jv.out hfr id)
  have Zn:=ħ (mW.out.trans (hfr.below (B:=w.heap.size) (by omega) (fun k hk e=>e)))
  have jV:=ħ hne
  have n5:w.heap.size+3≤g5:=by omega
  have n6:w.heap.size+3≤g6:=by omega
  have NQ:=ħ (fun k (hk:k<64)=>aC (b:=ji) hl1 hl2 hk)
  have UE:=ħ (fun k (hk:k<64)=>Hw hl1 hl2 hk)
  have Ot:=ħ (fun k (hk:k≤64)=>Ep hl1 hl2 hk)
  have HE:=ħ (dJ hl1 hl2)
  have HL2:=ħ hl2
  have HS:=ħ (fun (W:World) (hW:WB W g5 (Zq jR ji))=>uN g5 _ W hW (ZP hl1 hl2))
  clear pR nY hfr hne hl1 hl2 Zo qx jv HA HB mW tZ hW hg5 ND
  go_wp2_with fail
  go_loopw [12] (fun vi wr=>∃ (k:Nat),k≤64∧vi=ι k∧WB wr g5 (Q_ jR ji k)∧WB wr g6 ji∧zb wr (w.heap.size+2) 191 #[.pointer none]∧Below w.heap.size w wr) (fun vi _=>64 - (intOf vi).toNat)
  case atStart=>exact ⟨0,Nat.zero_le _,rfl,GH.out,Zm.out,HX.out,Zn.out⟩
  case round=>
   obtain ⟨k,hk,rfl,pR,nY,hx,hbel⟩:=hrel
   have G5:=ħ pR
   have G6:=ħ nY
   have GX:=ħ hx
   have GB:=ħ hbel
   clear pR nY hx hbel GH Zm HX Zn
   by_cases hlt:k<64
   ·have hlt':(k:Int)<64:=by omega
    have sP:=G5.out.at_ (i:=k) (by rw[Ot.out k hk];exact hlt)
    rw[NQ.out k hlt] at sP
    have hc6:=G6.out.at_ (i:=k) (by rw[HL2.out];exact hlt)
    have uC:=zb.frozen G5.out
    have s5:=zb.lt G5.out
    have s6:=zb.lt G6.out
    have HN:=ħ (show WB (wr.drew.setCell ⟨g5,k,none⟩ (.int .u64 ((gw jR k &&& gw ji k:Nat):Int))) g5 (Q_ jR ji (k+1)) by
     rw[←UE.out k hlt]
     have:=zb.set_ (show zb wr.drew g5 209 _ from G5.out) k (.int .u64 ((gw jR k &&& gw ji k:Nat):Int))
     unfold WB
     have e:zL ((Q_ jR ji k).set k (gw jR k &&& gw ji k))=(zL (Q_ jR ji k)).setIfInBounds k (.int .u64 ((gw jR k &&& gw ji k:Nat):Int)):=by
      unfold zL;rw[List.map_set];simp
     rw[e];exact this)
    have hand:=bI _ _ (pX.out k) (vg.out k)
    have yx:=ħ (fun (u:Value)=>show WB (wr.drew.setCell ⟨g5,k,none⟩ u) g6 ji from zb.far (show zb wr.drew g6 209 _ from G6.out) (fun e=>jV.out e.symm) u)
    have jy:=ħ (fun (u:Value)=>zb.far (p:=⟨g5,k,none⟩) (show zb wr.drew (w.heap.size+2) 191 _ from GX.out) (by simp;omega) u)
    have NL:=ħ (fun (u:Value)=>(GB.out.drew).setCell (p:=⟨g5,k,none⟩) (by simp;omega) u)
    generalize gw jR k=v1 at *
    generalize gw ji k=v2 at *
    go_wp2_with fail
    go_region_law (fail)
    all_goals
     go_wp2_with fail
     exact ⟨⟨k+1,by omega,by go_num,HN.out,yx.out _,jy.out _,NL.out _⟩,by simp[intOf];omega⟩
   ·have hlt':¬ (k:Int)<64:=by omega
    obtain rfl:k=64:=by omega
    have hx:=GX.out
    have GZ:=ħ (show WB wr g5 (Zq jR ji) by rw[←HE.out];exact G5.out)
    have iw:=GB.out.size
    have hgl:=zb.lt GZ.out
    have hxl:=GX.out.lt
    cases hzz:ZB (Zq jR ji) with
    | false=>
     rw[hzz] at HS
     go_wp2_with (go_at_call 192;((with_reducible refine (HS.out _ GZ.out).mono ?_);rintro e w3 ⟨rfl,hb3⟩;have qx:=ħ (GX.out.below hb3 hxl);have HZ3:=ħ (show WB w3 _ _ from zb.below GZ.out hb3 hgl);have HB3:=ħ (GB.out.trans (hb3.mono iw));obtain ⟨x0,x1,x2⟩:=qx.out.facts))
     have HF:=ħ (fun (u:Value)=>(((Fr.of_below HB3.out (S:=fun _=>False)).setCell (p:=⟨w.heap.size+2,0,none⟩) (.inr (by simp)) u).below (B:=w.heap.size) (Nat.le_refl _) (fun _ _=>id)))
     have HW:=ħ (fun (u:Value)=>zb.far (p:=⟨w.heap.size+2,0,none⟩) HZ3.out (by simp;omega) u)
     have hc3:(w3.cell? ⟨w.heap.size+2,0,none⟩).isSome=true:=by rw[x1];rfl
     refine bodyPost_ret (v:=.agg #[.pointer (some ⟨g5,0,none⟩)]) (by simp[results,Tryz.results170,go_sem,hc3]) rfl ⟨g5,by omega,by simp[hzz],HW.out _,HF.out _⟩
    | true=>
     rw[hzz] at HS
     go_wp2_with (go_at_call 192;((with_reducible refine (HS.out _ GZ.out).mono ?_);rintro e w3 ⟨rfl,hb3⟩;have qx:=ħ (GX.out.below hb3 hxl);have HZ3:=ħ (show WB w3 _ _ from zb.below GZ.out hb3 hgl);have HB3:=ħ (GB.out.trans (hb3.mono iw));obtain ⟨x0,x1,x2⟩:=qx.out.facts))
     have HF:=ħ (fun (u:Value)=>(((Fr.of_below HB3.out (S:=fun _=>False)).setCell (p:=⟨w.heap.size+2,0,none⟩) (.inr (by simp)) u).below (B:=w.heap.size) (Nat.le_refl _) (fun _ _=>id)))
     have HW:=ħ (fun (u:Value)=>zb.far (p:=⟨w.heap.size+2,0,none⟩) HZ3.out (by simp;omega) u)
     have hc3:(w3.cell? ⟨w.heap.size+2,0,none⟩).isSome=true:=by rw[x1];rfl
     refine bodyPost_ret (v:=.agg #[.pointer none]) (by simp[results,Tryz.results170,go_sem,hc3]) rfl ⟨g5,by omega,by simp[hzz],HW.out _,HF.out _⟩
end Go.Proofs.YtdhcjhfgibmhfaaGreatDoor
