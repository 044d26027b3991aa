import Derived.Test.YtdhcjhfgibmhfaaGreatDoorJG7
import Derived.Deep.RegionHeld
set_option linter.unusedVariables false
set_option linter.unusedSimpArgs false
set_option maxRecDepth 10000
set_option maxHeartbeats 8000000
namespace Go.Proofs.YtdhcjhfgibmhfaaGreatDoor
open Go.RowKit Go.Own Go.Quo Go.Inc
theorem mq (B:Nat→Prop)(id call inc urg dist since:Int)(code:ByteArray)(A:Option Addr)(c:Nat)(nodes:List Int)(closed:Bool)(w:World)(hs:code.size≤100000)(h:RI w B A nodes)(hl:nodes.length≤100000) :
 Calls Tryz.prog 71 #[ι id,.agg #[ι call,ι inc,ι urg,.string code,.slice A nodes.length c,ι dist,ι since,.bool closed]] w
  (if (zQ id 1 && yz ⟨call,inc,urg,code,nodes,dist,since,closed⟩)=true then jX (zt id ⟨call,inc,urg,code,nodes,dist,since,closed⟩) 0 w else jX zO 1 w):=by
 have Y1:=ħ fun W=>ZW id 1 W
 have HR:=ħ ((h.old (by omega)).more (B':=fun k=>k<w.heap.size) (fun k hk=>hk.2))
 have dX:=ħ fun (W:World) (hb:Below w.heap.size w W)=>vY _ call inc urg dist since code A c nodes closed W hs (HR.out.below hb (fun k hk=>hk)) hl
 have x0:=(zb.new w 34 #[ι call,ι inc,ι urg,.string code,.slice A nodes.length c,ι dist,ι since,.bool closed]).facts
 have HB0:=ħ (((Below.refl w.heap.size w).alloc (Nat.le_refl _) (.cells #[ι call,ι inc,ι urg,.string code,.slice A nodes.length c,ι dist,ι since,.bool closed] 34)).alloc (by simp) (.cells ζ 48))
 have HX:=ħ ((zb.new w 34 #[ι call,ι inc,ι urg,.string code,.slice A nodes.length c,ι dist,ι since,.bool closed]).alloc (.cells ζ 48))
 have HY:=ħ (show zb ((w.alloc (.cells #[ι call,ι inc,ι urg,.string code,.slice A nodes.length c,ι dist,ι since,.bool closed] 34)).alloc (.cells ζ 48)) (w.heap.size+1) 48 ζ by
  have:=zb.new (w.alloc (.cells #[ι call,ι inc,ι urg,.string code,.slice A nodes.length c,ι dist,ι since,.bool closed] 34)) 48 ζ
  simpa using this)
 clear h
 cases h0:zQ id 1 with
 | false=>
  rw[h0] at Y1
  rw[if_neg (by simp)]
  go_enter Tryz.func71,Tryz.ntmps71
  go_wp2_with (go_at_call 118;((with_reducible refine (Y1.out _).mono ?_);rintro e w2 ⟨rfl,rfl⟩))
  refine bodyPost_ret (za (p:=4) (u:=5) (ty:=48) Tryz.results71 _ _ (w.heap.size+1) 48 ζ (0,0) _ rfl HY.out Tryz.underlying48 rfl qo) rfl ?_
  exact ⟨none,none,none,0,0,0,rfl,World.ownsRow_nil _ _ _ _,World.ownsRow_nil _ _ _ _,World.ownsRow_nil _ _ _ _,HB0.out⟩
 | true=>
  rw[h0] at Y1
  cases h1:yz ⟨call,inc,urg,code,nodes,dist,since,closed⟩ with
  | false=>
   rw[h1] at dX
   rw[if_neg (by simp)]
   go_enter Tryz.func71,Tryz.ntmps71
   go_wp2_with (first | (go_at_call 118;((with_reducible refine (Y1.out _).mono ?_);rintro e w2 ⟨rfl,rfl⟩)) | (go_at_call 70;((with_reducible refine (dX.out _ HB0.out).mono ?_);rintro e w2 ⟨rfl,hb2⟩;have vR:=ħ (HY.out.below hb2 HY.out.lt);have HB2:=ħ (HB0.out.trans (hb2.mono HB0.out.size)))) | (refine z8 rfl (.tmp 4) (.tmp 14) 48 rfl (w.heap.size+1) 48 _ ζ _ 10 136 zJ rfl rfl rfl vR.out rfl (zH (by simp[Value.oneCell'])) ?_;intro w8 zW zI yL))
   refine bodyPost_ret (za (p:=4) (u:=5) (ty:=48) Tryz.results71 _ _ (w.heap.size+1) 48 ζ (0,0) _ rfl zW Tryz.underlying48 rfl qo) rfl ?_
   exact ⟨none,none,none,0,0,0,rfl,World.ownsRow_nil _ _ _ _,World.ownsRow_nil _ _ _ _,World.ownsRow_nil _ _ _ _,HB2.out.trans (zI.below HB2.out.size (fun k hk e=>by omega))⟩
  | true=>
   rw[h1] at dX
   rw[if_pos (by simp)]
   go_enter Tryz.func71,Tryz.ntmps71
   go_upto_region 3 with (first | (go_at_call 118;((with_reducible refine (Y1.out _).mono ?_);rintro e w2 ⟨rfl,rfl⟩)) | (go_at_call 70;((with_reducible refine (dX.out _ HB0.out).mono ?_);rintro e w2 ⟨rfl,hb2⟩;have HY:=ħ (HY.out.below hb2 HY.out.lt);have HX:=ħ (HX.out.below hb2 HX.out.lt);have HB2:=ħ (HB0.out.trans (hb2.mono HB0.out.size));clear hb2 x0;have x0:=HX.out.facts)))
   have HA:=ħ (HR.out.below HB2.out (fun k hk=>hk))
   clear HR dX Y1 x0
   obtain ⟨W4,GD⟩:∃ W4,W4=w2:=⟨_,rfl⟩
   rw[←GD] at HX HY HB2 HA⊢
   clear GD
   go_cut [5] (fun v wx=>∃ A3 c3 gl,v=ι 0∧zb wx (w.heap.size+1) 48 #[ι id,ι urg,.string code,.slice A3 nodes.length c3,ι dist,ι since,.slice (some ⟨gl,0,none⟩) 1 1,.slice none 0 0,ι 0,.bool false]∧wx.ownsRow W4.heap.size 3 1 (.slice A3 nodes.length c3) nodes.length (nodes.map (Value.int .i64))∧wx.ownsRow W4.heap.size 2 1 (.slice (some ⟨gl,0,none⟩) 1 1) 1 [ι call]∧Fr (fun k=>k=w.heap.size+1) W4 wx)
   case first=>
    refine qW (S:=fun w'=>Fr (fun k=>k=w.heap.size+1) W4 w') #[{ dst:=some 15,op:=Op.move (Operand.tmp 0),type:=2,pos:= "ref.go:67",after:=#[],guard:=none },{ dst:=some 16,op:=Op.fieldAddr 34 (Operand.tmp 3) 2,type:=0,pos:= "ref.go:67",after:=#[],guard:=none },{ dst:=some 17,op:=Op.load 3 (Operand.tmp 16),type:=3,pos:= "ref.go:67",after:=#[{ on:=1,ground:=Ground.data }],guard:=none },{ dst:=some 18,op:=Op.fieldAddr 34 (Operand.tmp 3) 3,type:=0,pos:= "ref.go:67",after:=#[],guard:=none },{ dst:=some 19,op:=Op.load 9 (Operand.tmp 18),type:=9,pos:= "ref.go:67",after:=#[{ on:=3,ground:=Ground.data }],guard:=none },{ dst:=some 20,op:=Op.buildSlice 32 0 #[],type:=32,pos:= "ref.go:67",after:=#[],guard:=none },{ dst:=some 21,op:=Op.fieldAddr 34 (Operand.tmp 3) 4,type:=0,pos:= "ref.go:67",after:=#[],guard:=none },{ dst:=some 22,op:=Op.load 32 (Operand.tmp 21),type:=32,pos:= "ref.go:67",after:=#[{ on:=6,ground:=Ground.data }],guard:=none },{ dst:=some 23,op:=Op.call { callee:=Callee.builtin Go.Builtin.append,args:=#[Operand.tmp 20,Operand.tmp 22],argTypes:=#[32,32] },type:=32,pos:= "ref.go:67",after:=#[{ on:=5,ground:=Ground.data },{ on:=7,ground:=Ground.data }],guard:=none },{ dst:=some 24,op:=Op.fieldAddr 34 (Operand.tmp 3) 5,type:=0,pos:= "ref.go:67",after:=#[],guard:=none },{ dst:=some 25,op:=Op.load 3 (Operand.tmp 24),type:=3,pos:= "ref.go:67",after:=#[{ on:=9,ground:=Ground.data }],guard:=none },{ dst:=some 26,op:=Op.fieldAddr 34 (Operand.tmp 3) 6,type:=0,pos:= "ref.go:67",after:=#[],guard:=none },{ dst:=some 27,op:=Op.load 2 (Operand.tmp 26),type:=2,pos:= "ref.go:67",after:=#[{ on:=11,ground:=Ground.data }],guard:=none },{ dst:=some 28,op:=Op.fieldAddr 34 (Operand.tmp 3) 0,type:=0,pos:= "ref.go:67",after:=#[],guard:=none },{ dst:=some 29,op:=Op.load 2 (Operand.tmp 28),type:=2,pos:= "ref.go:67",after:=#[{ on:=13,ground:=Ground.data }],guard:=none },{ dst:=some 30,op:=Op.buildSlice 46 1 #[(0,Operand.tmp 29)],type:=46,pos:= "ref.go:67",after:=#[{ on:=14,ground:=Ground.data }],guard:=none },{ dst:=some 31,op:=Op.build 48 #[(0,Operand.tmp 15),(1,Operand.tmp 17),(2,Operand.tmp 19),(3,Operand.tmp 23),(4,Operand.tmp 25),(5,Operand.tmp 27),(6,Operand.tmp 30)],type:=48,pos:= "ref.go:67",after:=#[{ on:=0,ground:=Ground.data },{ on:=2,ground:=Ground.data },{ on:=4,ground:=Ground.data },{ on:=8,ground:=Ground.data },{ on:=10,ground:=Ground.data },{ on:=12,ground:=Ground.data },{ on:=15,ground:=Ground.data }],guard:=none },{ dst:=none,op:=Op.store 48 (Operand.tmp 4) (Operand.tmp 31),type:=0,pos:= "ref.go:67",after:=#[{ on:=16,ground:=Ground.data },{ on:=8,ground:=Ground.chain },{ on:=0,ground:=Ground.phase },{ on:=1,ground:=Ground.phase },{ on:=2,ground:=Ground.phase },{ on:=3,ground:=Ground.phase },{ on:=4,ground:=Ground.phase },{ on:=5,ground:=Ground.phase },{ on:=6,ground:=Ground.phase },{ on:=7,ground:=Ground.phase },{ on:=8,ground:=Ground.phase },{ on:=9,ground:=Ground.phase },{ on:=10,ground:=Ground.phase },{ on:=11,ground:=Ground.phase },{ on:=12,ground:=Ground.phase },{ on:=13,ground:=Ground.phase },{ on:=14,ground:=Ground.phase },{ on:=15,ground:=Ground.phase },{ on:=16,ground:=Ground.phase }],guard:=none }] { dst:=some 5,op:=Op.assign (Operand.const (Go.Value.int Go.IntKind.i64 0)),type:=42,pos:= "ref.go:67",after:=#[{ on:=17,ground:=Ground.chain },{ on:=0,ground:=Ground.phase },{ on:=1,ground:=Ground.phase },{ on:=2,ground:=Ground.phase },{ on:=3,ground:=Ground.phase },{ on:=4,ground:=Ground.phase },{ on:=5,ground:=Ground.phase },{ on:=6,ground:=Ground.phase },{ on:=7,ground:=Ground.phase },{ on:=8,ground:=Ground.phase },{ on:=9,ground:=Ground.phase },{ on:=10,ground:=Ground.phase },{ on:=11,ground:=Ground.phase },{ on:=12,ground:=Ground.phase },{ on:=13,ground:=Ground.phase },{ on:=14,ground:=Ground.phase },{ on:=15,ground:=Ground.phase },{ on:=16,ground:=Ground.phase },{ on:=17,ground:=Ground.phase }],guard:=none } (by rfl) (by kernel_rfl) (by kernel_rfl) ?_ (fun hHeld=>?_)
    ·exact (Fr.refl _ _).drew
    have HR:=ħ hHeld
    have HV:=ħ HY.out.drew
    have EC:=ħ HY.out.lt
    generalize W4.drew=wx at *
    refine wpAnyH_take (i:=0) (v:=?v0) rfl (by kernel_rfl) (by kernel_rfl) (by kernel_rfl) (fun _ _ _ h=>h) (Or.inl ⟨by rfl,?hy0⟩) hHeld ?rest0
    case hy0=>
     intro w0 hSw
     try obtain ⟨-,hS1,-⟩:=(HX.out.fr hSw (by omega)).facts
     go_simp
     try with_reducible rfl
    try simp only[Act.put,σa,σb,σc]
    refine wpAnyH_take (i:=1) (v:=?v1) rfl (by kernel_rfl) (by kernel_rfl) (by kernel_rfl) (fun _ _ _ h=>h) (Or.inl ⟨by rfl,?hy1⟩) hHeld ?rest1
    case hy1=>
     intro w0 hSw
     try obtain ⟨-,hS1,-⟩:=(HX.out.fr hSw (by omega)).facts
     go_simp
     try with_reducible rfl
    try simp only[Act.put,σa,σb,σc]
    refine wpAnyH_take (i:=2) (v:=?v2) rfl (by kernel_rfl) (by kernel_rfl) (by kernel_rfl) (fun _ _ _ h=>h) (Or.inl ⟨by rfl,?hy2⟩) hHeld ?rest2
    case hy2=>
     intro w0 hSw
     try obtain ⟨-,hS1,-⟩:=(HX.out.fr hSw (by omega)).facts
     go_simp
     try with_reducible rfl
    try simp only[Act.put,σa,σb,σc]
    refine wpAnyH_take (i:=3) (v:=?v3) rfl (by kernel_rfl) (by kernel_rfl) (by kernel_rfl) (fun _ _ _ h=>h) (Or.inl ⟨by rfl,?hy3⟩) hHeld ?rest3
    case hy3=>
     intro w0 hSw
     try obtain ⟨-,hS1,-⟩:=(HX.out.fr hSw (by omega)).facts
     go_simp
     try with_reducible rfl
    try simp only[Act.put,σa,σb,σc]
    refine wpAnyH_take (i:=4) (v:=?v4) rfl (by kernel_rfl) (by kernel_rfl) (by kernel_rfl) (fun _ _ _ h=>h) (Or.inl ⟨by rfl,?hy4⟩) hHeld ?rest4
    case hy4=>
     intro w0 hSw
     try obtain ⟨-,hS1,-⟩:=(HX.out.fr hSw (by omega)).facts
     go_simp
     try with_reducible rfl
    try simp only[Act.put,σa,σb,σc]
    refine wpAnyH_take (i:=6) (v:=?v5) rfl (by kernel_rfl) (by kernel_rfl) (by kernel_rfl) (fun _ _ _ h=>h) (Or.inl ⟨by rfl,?hy5⟩) hHeld ?rest5
    case hy5=>
     intro w0 hSw
     try obtain ⟨-,hS1,-⟩:=(HX.out.fr hSw (by omega)).facts
     go_simp
     try with_reducible rfl
    try simp only[Act.put,σa,σb,σc]
    refine wpAnyH_take (i:=7) (v:=?v6) rfl (by kernel_rfl) (by kernel_rfl) (by kernel_rfl) (fun _ _ _ h=>h) (Or.inl ⟨by rfl,?hy6⟩) hHeld ?rest6
    case hy6=>
     intro w0 hSw
     try obtain ⟨-,hS1,-⟩:=(HX.out.fr hSw (by omega)).facts
     go_simp
     try with_reducible rfl
    try simp only[Act.put,σa,σb,σc]
    refine wpAnyH_take (i:=9) (v:=?v7) rfl (by kernel_rfl) (by kernel_rfl) (by kernel_rfl) (fun _ _ _ h=>h) (Or.inl ⟨by rfl,?AY⟩) hHeld ?rest7
    case AY=>
     intro w0 hSw
     try obtain ⟨-,hS1,-⟩:=(HX.out.fr hSw (by omega)).facts
     go_simp
     try with_reducible rfl
    try simp only[Act.put,σa,σb,σc]
    refine wpAnyH_take (i:=10) (v:=?v8) rfl (by kernel_rfl) (by kernel_rfl) (by kernel_rfl) (fun _ _ _ h=>h) (Or.inl ⟨by rfl,?BQ⟩) hHeld ?rest8
    case BQ=>
     intro w0 hSw
     try obtain ⟨-,hS1,-⟩:=(HX.out.fr hSw (by omega)).facts
     go_simp
     try with_reducible rfl
    try simp only[Act.put,σa,σb,σc]
    refine wpAnyH_take (i:=11) (v:=?v9) rfl (by kernel_rfl) (by kernel_rfl) (by kernel_rfl) (fun _ _ _ h=>h) (Or.inl ⟨by rfl,?hy9⟩) hHeld ?rest9
    case hy9=>
     intro w0 hSw
     try obtain ⟨-,hS1,-⟩:=(HX.out.fr hSw (by omega)).facts
     go_simp
     try with_reducible rfl
    try simp only[Act.put,σa,σb,σc]
    refine wpAnyH_take (i:=12) (v:=?v10) rfl (by kernel_rfl) (by kernel_rfl) (by kernel_rfl) (fun _ _ _ h=>h) (Or.inl ⟨by rfl,?hy10⟩) hHeld ?rest10
    case hy10=>
     intro w0 hSw
     try obtain ⟨-,hS1,-⟩:=(HX.out.fr hSw (by omega)).facts
     go_simp
     try with_reducible rfl
    try simp only[Act.put,σa,σb,σc]
    refine wpAnyH_take (i:=13) (v:=?v11) rfl (by kernel_rfl) (by kernel_rfl) (by kernel_rfl) (fun _ _ _ h=>h) (Or.inl ⟨by rfl,?hy11⟩) hHeld ?rest11
    case hy11=>
     intro w0 hSw
     try obtain ⟨-,hS1,-⟩:=(HX.out.fr hSw (by omega)).facts
     go_simp
     try with_reducible rfl
    try simp only[Act.put,σa,σb,σc]
    refine wpAnyH_take (i:=14) (v:=?v12) rfl (by kernel_rfl) (by kernel_rfl) (by kernel_rfl) (fun _ _ _ h=>h) (Or.inl ⟨by rfl,?hy12⟩) hHeld ?rest12
    case hy12=>
     intro w0 hSw
     try obtain ⟨-,hS1,-⟩:=(HX.out.fr hSw (by omega)).facts
     go_simp
     try with_reducible rfl
    try simp only[Act.put,σa,σb,σc]
    refine wpAnyH_ready (rs:=[5,15]) (by kernel_rfl) (by simp) ?_
    refine AllReadyH.cons rfl (fun K hK=>?_) ?_
    ·skip
     go_simp
     have hbn:=World.ownsRow_made (base:=W4.heap.size) (e:=3) (size:=1) wx #[] 0 HR.out.size (by simp) (by simp)
     have hrn:=HR.out.alloc (.cells #[] 3)
     replace HV:=ħ (HV.out.alloc (.cells #[] 3))
     try replace HE:=ħ (HE.out.alloc (.cells #[] 3))
     try replace HN:=ħ (HN.out.alloc (.cells #[] 3))
     try replace HL:=ħ (HL.out.alloc (.cells #[] 3))
     generalize wx.alloc _=wz at *
     generalize wx.heap.size=ge at *
     have HE:=ħ hbn
     replace HR:=ħ hrn
     clear hbn hrn
     obtain ⟨wx,hwx⟩:∃ wx,wx=wz:=⟨_,rfl⟩
     rw[←hwx] at HR HV⊢
     try rw[←hwx] at HE
     try rw[←hwx] at HN
     try rw[←hwx] at HL
     try rw[←hwx] at HQ
     clear hwx
     refine hK.out _ _ ?_ (fun hHeld=>?_)
     ·exact HR.out
     clear hK K
     try simp only[Act.put,σa,σb,σc]
     refine wpAnyH_ready (rs:=[8,15]) (by kernel_rfl) (by simp) ?_
     refine AllReadyH.cons rfl (fun K hK=>?_) ?_
     ·skip
      refine yf _ (by rfl) (.tmp 20) (.tmp 22) _ (by rfl) W4.heap.size 3 (ι 0) 1 8 Tryz.underlying32 info3 rfl (by omega) (.slice (some ⟨ge,0,none⟩) 0 0) 0 [] (by rfl) HE.out _ A nodes.length c (nodes.map (Value.int .i64)) (by rfl) (HA.out.fr HR.out (fun k hk e=>by omega)) (by intro u hu;obtain ⟨x,-,rfl⟩:=List.mem_map.1 hu;rfl) (by simp only[maxLen];omega) (by omega) HR.out.size ?_
      intro A3 c3 wz hown hgr hat
      simp only[Nat.zero_add,List.nil_append] at hown hat
      try simp only[Nat.zero_add]
      try replace HL:=ħ (World.ownsRow.kept HL.out hgr (Vb (jf HL.out HE.out (by decide))))
      have HN:=ħ hown
      replace HR:=ħ (HR.out.grown hgr (fun k hk=>.inr (HE.out.lt k hk).1))
      replace HV:=ħ (HV.out.grown hgr (fun e=>by have:=(HE.out.lt _ e.symm).1;have:=EC.out;omega))
      clear HE hown hgr hat
      obtain ⟨wx,hwx⟩:∃ wx,wx=wz:=⟨_,rfl⟩
      rw[←hwx] at HR HV⊢
      try rw[←hwx] at HE
      try rw[←hwx] at HN
      try rw[←hwx] at HL
      try rw[←hwx] at HQ
      clear hwx
      refine hK.out _ _ ?_ (fun hHeld=>?_)
      ·exact HR.out
      clear hK K
      try simp only[Act.put,σa,σb,σc]
      refine wpAnyH_ready (rs:=[15]) (by kernel_rfl) (by simp) ?_
      refine AllReadyH.cons rfl (fun K hK=>?_) ?_
      ·skip
       go_simp
       have hbn:=World.ownsRow_lit (base:=W4.heap.size) (e:=2) (size:=1) wx #[ι call] 1 HR.out.size (by simp only[maxLen];omega) rfl
       have hrn:=HR.out.alloc (.cells #[ι call] 2)
       replace HV:=ħ (HV.out.alloc (.cells #[ι call] 2))
       try replace HE:=ħ (HE.out.alloc (.cells #[ι call] 2))
       try replace HN:=ħ (HN.out.alloc (.cells #[ι call] 2))
       try replace HL:=ħ (HL.out.alloc (.cells #[ι call] 2))
       generalize wx.alloc _=wz at *
       generalize wx.heap.size=gl at *
       have HL:=ħ hbn
       replace HR:=ħ hrn
       clear hbn hrn
       obtain ⟨wx,hwx⟩:∃ wx,wx=wz:=⟨_,rfl⟩
       rw[←hwx] at HR HV⊢
       try rw[←hwx] at HE
       try rw[←hwx] at HN
       try rw[←hwx] at HL
       try rw[←hwx] at HQ
       clear hwx
       refine hK.out _ _ ?_ (fun hHeld=>?_)
       ·exact HR.out
       clear hK K
       try simp only[Act.put,σa,σb,σc]
       refine wpAnyH_take (i:=16) (v:=?v13) rfl (by kernel_rfl) (by kernel_rfl) (by kernel_rfl) (fun _ _ _ h=>h) (Or.inl ⟨by rfl,?hy13⟩) hHeld ?rest13
       case hy13=>
        intro w0 hSw
        try obtain ⟨-,hS1,-⟩:=(HX.out.fr hSw (by omega)).facts
        go_simp
        try with_reducible rfl
       try simp only[Act.put,σa,σb,σc]
       refine wpAnyH_ready (rs:=[17]) (by kernel_rfl) (by simp) ?_
       refine AllReadyH.cons rfl (fun K hK=>?_) ?_
       ·skip
        refine zf _ (by rfl) (.tmp 4) (.tmp 31) 48 (by rfl) _ 48 _ #[ι id,ι urg,.string code,.slice A3 nodes.length c3,ι dist,ι since,.slice (some ⟨gl,0,none⟩) 1 1,.slice none 0 0,ι 0,.bool false] _ 10 136 zJ (by rfl) (by rfl) (by rfl) HV.out (by rfl) (zH (by simp[Value.oneCell'])) ?_
        intro wz hbz hfz hsz
        replace HN:=ħ (zY HN.out hfz (fun g hg e=>by have:=(HN.out.lt g hg).1;have:=EC.out;omega))
        replace HL:=ħ (zY HL.out hfz (fun g hg e=>by have:=(HL.out.lt g hg).1;have:=EC.out;omega))
        replace HR:=ħ (HR.out.trans hfz)
        have HQ:=ħ hbz
        clear hbz hfz hsz
        obtain ⟨wx,hwx⟩:∃ wx,wx=wz:=⟨_,rfl⟩
        rw[←hwx] at HQ HN HL HR⊢
        clear hwx
        refine hK.out _ _ ?_ (fun hHeld=>?_)
        ·exact HR.out
        clear hK K
        try simp only[Act.put,σa,σb,σc]
        refine wpAnyH_done (by kernel_rfl) ?_ _
        refine qb _ rfl (fun K hK=>?_)
        go_simp
        refine hK _ _ ?_
        go_wp2_with fail
        go_meet
        case rel=>exact ⟨A3,c3,gl,rfl,HQ.out,HN.out,by simpa using HL.out,HR.out⟩
       exact AllReadyH.nil
      exact AllReadyH.nil
     refine AllReadyH.cons rfl (fun K hK=>?_) ?_
     ·skip
      go_simp
      have hbn:=World.ownsRow_lit (base:=W4.heap.size) (e:=2) (size:=1) wx #[ι call] 1 HR.out.size (by simp only[maxLen];omega) rfl
      have hrn:=HR.out.alloc (.cells #[ι call] 2)
      replace HV:=ħ (HV.out.alloc (.cells #[ι call] 2))
      try replace HE:=ħ (HE.out.alloc (.cells #[ι call] 2))
      try replace HN:=ħ (HN.out.alloc (.cells #[ι call] 2))
      try replace HL:=ħ (HL.out.alloc (.cells #[ι call] 2))
      generalize wx.alloc _=wz at *
      generalize wx.heap.size=gl at *
      have HL:=ħ hbn
      replace HR:=ħ hrn
      clear hbn hrn
      obtain ⟨wx,hwx⟩:∃ wx,wx=wz:=⟨_,rfl⟩
      rw[←hwx] at HR HV⊢
      try rw[←hwx] at HE
      try rw[←hwx] at HN
      try rw[←hwx] at HL
      try rw[←hwx] at HQ
      clear hwx
      refine hK.out _ _ ?_ (fun hHeld=>?_)
      ·exact HR.out
      clear hK K
      try simp only[Act.put,σa,σb,σc]
      refine wpAnyH_ready (rs:=[8]) (by kernel_rfl) (by simp) ?_
      refine AllReadyH.cons rfl (fun K hK=>?_) ?_
      ·skip
       refine yf _ (by rfl) (.tmp 20) (.tmp 22) _ (by rfl) W4.heap.size 3 (ι 0) 1 8 Tryz.underlying32 info3 rfl (by omega) (.slice (some ⟨ge,0,none⟩) 0 0) 0 [] (by rfl) HE.out _ A nodes.length c (nodes.map (Value.int .i64)) (by rfl) (HA.out.fr HR.out (fun k hk e=>by omega)) (by intro u hu;obtain ⟨x,-,rfl⟩:=List.mem_map.1 hu;rfl) (by simp only[maxLen];omega) (by omega) HR.out.size ?_
       intro A3 c3 wz hown hgr hat
       simp only[Nat.zero_add,List.nil_append] at hown hat
       try simp only[Nat.zero_add]
       try replace HL:=ħ (World.ownsRow.kept HL.out hgr (Vb (jf HL.out HE.out (by decide))))
       have HN:=ħ hown
       replace HR:=ħ (HR.out.grown hgr (fun k hk=>.inr (HE.out.lt k hk).1))
       replace HV:=ħ (HV.out.grown hgr (fun e=>by have:=(HE.out.lt _ e.symm).1;have:=EC.out;omega))
       clear HE hown hgr hat
       obtain ⟨wx,hwx⟩:∃ wx,wx=wz:=⟨_,rfl⟩
       rw[←hwx] at HR HV⊢
       try rw[←hwx] at HE
       try rw[←hwx] at HN
       try rw[←hwx] at HL
       try rw[←hwx] at HQ
       clear hwx
       refine hK.out _ _ ?_ (fun hHeld=>?_)
       ·exact HR.out
       clear hK K
       try simp only[Act.put,σa,σb,σc]
       refine wpAnyH_take (i:=16) (v:=?v14) rfl (by kernel_rfl) (by kernel_rfl) (by kernel_rfl) (fun _ _ _ h=>h) (Or.inl ⟨by rfl,?hy14⟩) hHeld ?rest14
       case hy14=>
        intro w0 hSw
        try obtain ⟨-,hS1,-⟩:=(HX.out.fr hSw (by omega)).facts
        go_simp
        try with_reducible rfl
       try simp only[Act.put,σa,σb,σc]
       refine wpAnyH_ready (rs:=[17]) (by kernel_rfl) (by simp) ?_
       refine AllReadyH.cons rfl (fun K hK=>?_) ?_
       ·skip
        refine zf _ (by rfl) (.tmp 4) (.tmp 31) 48 (by rfl) _ 48 _ #[ι id,ι urg,.string code,.slice A3 nodes.length c3,ι dist,ι since,.slice (some ⟨gl,0,none⟩) 1 1,.slice none 0 0,ι 0,.bool false] _ 10 136 zJ (by rfl) (by rfl) (by rfl) HV.out (by rfl) (zH (by simp[Value.oneCell'])) ?_
        intro wz hbz hfz hsz
        replace HN:=ħ (zY HN.out hfz (fun g hg e=>by have:=(HN.out.lt g hg).1;have:=EC.out;omega))
        replace HL:=ħ (zY HL.out hfz (fun g hg e=>by have:=(HL.out.lt g hg).1;have:=EC.out;omega))
        replace HR:=ħ (HR.out.trans hfz)
        have HQ:=ħ hbz
        clear hbz hfz hsz
        obtain ⟨wx,hwx⟩:∃ wx,wx=wz:=⟨_,rfl⟩
        rw[←hwx] at HQ HN HL HR⊢
        clear hwx
        refine hK.out _ _ ?_ (fun hHeld=>?_)
        ·exact HR.out
        clear hK K
        try simp only[Act.put,σa,σb,σc]
        refine wpAnyH_done (by kernel_rfl) ?_ _
        refine qb _ rfl (fun K hK=>?_)
        go_simp
        refine hK _ _ ?_
        go_wp2_with fail
        go_meet
        case rel=>exact ⟨A3,c3,gl,rfl,HQ.out,HN.out,by simpa using HL.out,HR.out⟩
       exact AllReadyH.nil
      exact AllReadyH.nil
     exact AllReadyH.nil
    refine AllReadyH.cons rfl (fun K hK=>?_) ?_
    ·skip
     go_simp
     have hbn:=World.ownsRow_lit (base:=W4.heap.size) (e:=2) (size:=1) wx #[ι call] 1 HR.out.size (by simp only[maxLen];omega) rfl
     have hrn:=HR.out.alloc (.cells #[ι call] 2)
     replace HV:=ħ (HV.out.alloc (.cells #[ι call] 2))
     try replace HE:=ħ (HE.out.alloc (.cells #[ι call] 2))
     try replace HN:=ħ (HN.out.alloc (.cells #[ι call] 2))
     try replace HL:=ħ (HL.out.alloc (.cells #[ι call] 2))
     generalize wx.alloc _=wz at *
     generalize wx.heap.size=gl at *
     have HL:=ħ hbn
     replace HR:=ħ hrn
     clear hbn hrn
     obtain ⟨wx,hwx⟩:∃ wx,wx=wz:=⟨_,rfl⟩
     rw[←hwx] at HR HV⊢
     try rw[←hwx] at HE
     try rw[←hwx] at HN
     try rw[←hwx] at HL
     try rw[←hwx] at HQ
     clear hwx
     refine hK.out _ _ ?_ (fun hHeld=>?_)
     ·exact HR.out
     clear hK K
     try simp only[Act.put,σa,σb,σc]
     refine wpAnyH_ready (rs:=[5]) (by kernel_rfl) (by simp) ?_
     refine AllReadyH.cons rfl (fun K hK=>?_) ?_
     ·skip
      go_simp
      have hbn:=World.ownsRow_made (base:=W4.heap.size) (e:=3) (size:=1) wx #[] 0 HR.out.size (by simp) (by simp)
      have hrn:=HR.out.alloc (.cells #[] 3)
      replace HV:=ħ (HV.out.alloc (.cells #[] 3))
      try replace HE:=ħ (HE.out.alloc (.cells #[] 3))
      try replace HN:=ħ (HN.out.alloc (.cells #[] 3))
      try replace HL:=ħ (HL.out.alloc (.cells #[] 3))
      generalize wx.alloc _=wz at *
      generalize wx.heap.size=ge at *
      have HE:=ħ hbn
      replace HR:=ħ hrn
      clear hbn hrn
      obtain ⟨wx,hwx⟩:∃ wx,wx=wz:=⟨_,rfl⟩
      rw[←hwx] at HR HV⊢
      try rw[←hwx] at HE
      try rw[←hwx] at HN
      try rw[←hwx] at HL
      try rw[←hwx] at HQ
      clear hwx
      refine hK.out _ _ ?_ (fun hHeld=>?_)
      ·exact HR.out
      clear hK K
      try simp only[Act.put,σa,σb,σc]
      refine wpAnyH_ready (rs:=[8]) (by kernel_rfl) (by simp) ?_
      refine AllReadyH.cons rfl (fun K hK=>?_) ?_
      ·skip
       refine yf _ (by rfl) (.tmp 20) (.tmp 22) _ (by rfl) W4.heap.size 3 (ι 0) 1 8 Tryz.underlying32 info3 rfl (by omega) (.slice (some ⟨ge,0,none⟩) 0 0) 0 [] (by rfl) HE.out _ A nodes.length c (nodes.map (Value.int .i64)) (by rfl) (HA.out.fr HR.out (fun k hk e=>by omega)) (by intro u hu;obtain ⟨x,-,rfl⟩:=List.mem_map.1 hu;rfl) (by simp only[maxLen];omega) (by omega) HR.out.size ?_
       intro A3 c3 wz hown hgr hat
       simp only[Nat.zero_add,List.nil_append] at hown hat
       try simp only[Nat.zero_add]
       try replace HL:=ħ (World.ownsRow.kept HL.out hgr (Vb (jf HL.out HE.out (by decide))))
       have HN:=ħ hown
       replace HR:=ħ (HR.out.grown hgr (fun k hk=>.inr (HE.out.lt k hk).1))
       replace HV:=ħ (HV.out.grown hgr (fun e=>by have:=(HE.out.lt _ e.symm).1;have:=EC.out;omega))
       clear HE hown hgr hat
       obtain ⟨wx,hwx⟩:∃ wx,wx=wz:=⟨_,rfl⟩
       rw[←hwx] at HR HV⊢
       try rw[←hwx] at HE
       try rw[←hwx] at HN
       try rw[←hwx] at HL
       try rw[←hwx] at HQ
       clear hwx
       refine hK.out _ _ ?_ (fun hHeld=>?_)
       ·exact HR.out
       clear hK K
       try simp only[Act.put,σa,σb,σc]
       refine wpAnyH_take (i:=16) (v:=?v15) rfl (by kernel_rfl) (by kernel_rfl) (by kernel_rfl) (fun _ _ _ h=>h) (Or.inl ⟨by rfl,?hy15⟩) hHeld ?rest15
       case hy15=>
        intro w0 hSw
        try obtain ⟨-,hS1,-⟩:=(HX.out.fr hSw (by omega)).facts
        go_simp
        try with_reducible rfl
       try simp only[Act.put,σa,σb,σc]
       refine wpAnyH_ready (rs:=[17]) (by kernel_rfl) (by simp) ?_
       refine AllReadyH.cons rfl (fun K hK=>?_) ?_
       ·skip
        refine zf _ (by rfl) (.tmp 4) (.tmp 31) 48 (by rfl) _ 48 _ #[ι id,ι urg,.string code,.slice A3 nodes.length c3,ι dist,ι since,.slice (some ⟨gl,0,none⟩) 1 1,.slice none 0 0,ι 0,.bool false] _ 10 136 zJ (by rfl) (by rfl) (by rfl) HV.out (by rfl) (zH (by simp[Value.oneCell'])) ?_
        intro wz hbz hfz hsz
        replace HN:=ħ (zY HN.out hfz (fun g hg e=>by have:=(HN.out.lt g hg).1;have:=EC.out;omega))
        replace HL:=ħ (zY HL.out hfz (fun g hg e=>by have:=(HL.out.lt g hg).1;have:=EC.out;omega))
        replace HR:=ħ (HR.out.trans hfz)
        have HQ:=ħ hbz
        clear hbz hfz hsz
        obtain ⟨wx,hwx⟩:∃ wx,wx=wz:=⟨_,rfl⟩
        rw[←hwx] at HQ HN HL HR⊢
        clear hwx
        refine hK.out _ _ ?_ (fun hHeld=>?_)
        ·exact HR.out
        clear hK K
        try simp only[Act.put,σa,σb,σc]
        refine wpAnyH_done (by kernel_rfl) ?_ _
        refine qb _ rfl (fun K hK=>?_)
        go_simp
        refine hK _ _ ?_
        go_wp2_with fail
        go_meet
        case rel=>exact ⟨A3,c3,gl,rfl,HQ.out,HN.out,by simpa using HL.out,HR.out⟩
       exact AllReadyH.nil
      exact AllReadyH.nil
     exact AllReadyH.nil
    exact AllReadyH.nil
   case rest=>
    obtain ⟨A3,c3,gl,rfl,hq,hn,hl,hf⟩:=hcut
    have hs2:=HB2.out.size
    have HN:=ħ (World.ownsRow.mono hn hs2)
    have HL:=ħ (World.ownsRow.mono hl hs2)
    have HQ:=ħ hq
    have Oe:=ħ (HB2.out.trans (hf.below hs2 (fun k hk e=>by omega)))
    clear hn hl hq hf HX HY HA
    go_wp2_with fail
    refine bodyPost_ret (za (p:=4) (u:=5) (ty:=48) Tryz.results71 _ _ (w.heap.size+1) 48 #[ι id,ι urg,.string code,.slice A3 nodes.length c3,ι dist,ι since,.slice (some ⟨gl,0,none⟩) 1 1,.slice none 0 0,ι 0,.bool false] (0,0) _ rfl HQ.out Tryz.underlying48 rfl qo) rfl ?_
    exact ⟨A3,some ⟨gl,0,none⟩,none,c3,1,0,rfl,HN.out,HL.out,World.ownsRow_nil _ _ _ _,Oe.out⟩
end Go.Proofs.YtdhcjhfgibmhfaaGreatDoor
