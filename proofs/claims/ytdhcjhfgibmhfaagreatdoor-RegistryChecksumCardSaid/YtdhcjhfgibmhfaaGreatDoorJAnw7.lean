import Derived.Test.YtdhcjhfgibmhfaaGreatDoorJG14
import Derived.Deep.MidRow
import Derived.Deep.RegionHeld
import Derived.Deep.RegionLaw
import Derived.Deep.DeepCutAuto
set_option linter.unusedVariables false
set_option linter.unusedSimpArgs false
set_option maxRecDepth 10000
set_option maxHeartbeats 8000000
namespace Go.Proofs.YtdhcjhfgibmhfaaGreatDoor
open Go.RowKit Go.Own Go.Quo Go.Inc
theorem av (D:Nat→Prop)(x:Ic)(An Ac Au:Option Addr)(cn cc cu:Nat)(t0:Ca)(r:List Ca)(cs:List Cr)(A2:Option Addr)(c2 n:Nat)(w w5:World)(hn:n≤1000)(hc2:n≤c2)
 (HU:RowKit.Hid (RI w (fun b=>b<w.heap.size∧D b) Au x.units)) (qx:RowKit.Hid (zb w5 w.heap.size 48 (ξ x An cn Ac cc Au cu))) (RF:RowKit.Hid (zb w5 (w.heap.size+1) 48 ζ)) (HB3:RowKit.Hid (Below w.heap.size w w5))
 (YM:RowKit.Hid (n=r.length+1)) (jB:RowKit.Hid (Reads w5 (· < w5.heap.size) 8 A2 (t0 :: r).length ((t0 :: r).flatMap qC))) (Zh:RowKit.Hid (∀ t∈t0 :: r,yz t.c=true∧RI w (fun b=>b<w.heap.size∧D b) t.A t.c.nodes∧t.c.code.size≤100000∧t.c.nodes.length≤100000)) (mD:RowKit.Hid (zQ x.id 1=true)) (AA:RowKit.Hid (qF x cs=match Zc (zt x.id t0.c) (r.map (·.c)) with | none=>(zO,5) | some y=>if x.merged≠0 then (zO,8) else (⟨x.id,y.urg,y.code,y.nodes,x.dist,y.since,y.calls,x.units,x.merged,x.closed⟩,0))) (s0 s1 s3 s5 s7 s8 s9 s10 s11 s12 s13 vw s15 s16 xQ xP xS s20 xM vD xK s24 xZ xO xX Sw vB xL vz x_ xN vE kw Df kR D7 Dt DD kg kE s43 s44 DK De kC D9 s49 uI uS D8 s53 DC Dk kX Du uO Dn Dy D5 kK uJ kF Dz DJ Dw s68 Bw BR ae s72 BS BX aa BV BB af BM BH B_ s82 s83 BI Gz GM s87 GK GN GY GA Eg Ec Eh GQ GU Ed G_ Ee X3 Xp Xf JX Xn JV JN Xq JS Xd JW Xc J_ JJ Xh JO JQ X9 Xu Xe X0 Xo X6 JR Xl X4 JY Xr JK Xk Xb JM X5 Xm X7 Xt:Value) :
 (Q5 [true,true,true,true] (Tryz.f30.body.getD .skip)).wp Tryz.prog (bodyPost Tryz.prog Tryz.f30 (yY D x cs w)) ⟨#[s0,s1,.pointer (some ⟨w.heap.size,0,none⟩),s3,.pointer (some ⟨w.heap.size+1,0,none⟩),s5,.slice A2 n c2,s7,s8,s9,s10,s11,s12,s13,vw,s15,s16,xQ,xP,xS,s20,xM,vD,xK,s24,xZ,xO,xX,Sw,vB,xL,vz,x_,xN,vE,kw,Df,kR,D7,Dt,DD,kg,kE,s43,s44,DK,De,kC,D9,s49,uI,uS,D8,s53,DC,Dk,kX,Du,uO,Dn,Dy,D5,kK,uJ,kF,Dz,DJ,Dw,s68,Bw,BR,ae,s72,BS,BX,aa,BV,BB,af,BM,BH,B_,s82,s83,BI,Gz,GM,s87,GK,GN,GY,GA,Eg,Ec,Eh,GQ,GU,Ed,G_,Ee,X3,Xp,Xf,JX,Xn,JV,JN,Xq,JS,Xd,JW,Xc,J_,JJ,Xh,JO,JQ,X9,Xu,Xe,X0,Xo,X6,JR,Xl,X4,JY,Xr,JK,Xk,Xb,JM,X5,Xm,X7,Xt],[]⟩ w5:=by
 have hpos:0<n:=by have:=YM.out;omega
 have hr3:Reads w5 (· < w5.heap.size) 8 A2 n ((t0 :: r).flatMap qC):=by have:=jB.out;rw[List.length_cons,←YM.out] at this;exact this
 have Al:=ħ (Ym hr3 YM.out hc2)
 have hp3:=hr3.plain (by omega)
 have hpt:=Al.out.plain (by omega)
 have rQ:∀ W:World,(Instr.indexAt 27 (.slice A2 n c2) (ι 0)).run Tryz.prog W=.ok (.pointer (some ⟨bk A2,qP A2,none⟩)) W:=fun W=>by simpa using VD hp3 c2 0 hpos W
 have hcut:∀ W:World,(Instr.slice 27 (.slice A2 n c2) (some (ι 1)) none none).run Tryz.prog W=.ok (.slice (ZH A2 c2) r.length (c2 - 1)) W:=fun W=>by
  have:=Q3 (A:=A2) (c:=c2) (show 1≤n from hpos) W
  rw[YM.out,Nat.add_sub_cancel] at this;rw[YM.out];exact this
 have fJ:∀ W:World,(Instr.sliceAt 27 (.slice A2 n c2) (some (ι 1)) none none).run Tryz.prog W=.ok (.slice (ZH A2 c2) r.length (c2 - 1)) W:=fun W=>by
  have:=QC (A:=A2) (c:=c2) (show 1≤n from hpos) W
  rw[YM.out,Nat.add_sub_cancel] at this;rw[YM.out];exact this
 clear hr3
 have d1:decide ((1000:Int)<(n:Int))=false:=decide_eq_false (by omega)
 have hS:=HB3.out.size
 obtain ⟨m1,m2,m3,m4⟩:=Zh.out t0 (by simp)
 have Gu:=ħ fun (W:World) (hb:Fr (fun _=>False) w5 W)=>(show Calls Tryz.prog 71 #[ι x.id,.agg (χ t0.c t0.A t0.k)] W (fun e w'=>∃ UW Uz xV Kj Kc vF,e=.returned (.tuple #[.agg #[ι x.id,ι t0.c.urg,.string t0.c.code,.slice UW t0.c.nodes.length Kj,ι t0.c.dist,ι t0.c.since,.slice Uz 1 Kc,.slice xV 0 vF,ι 0,.bool false],ι 0])∧w'.ownsRow W.heap.size 3 1 (.slice UW t0.c.nodes.length Kj) t0.c.nodes.length (t0.c.nodes.map (Value.int .i64))∧w'.ownsRow W.heap.size 2 1 (.slice Uz 1 Kc) 1 [ι t0.c.call]∧Below W.heap.size W w') from by
  have:=mq (fun k=>k<w.heap.size∧D k) x.id t0.c.call t0.c.inc t0.c.urg t0.c.dist t0.c.since t0.c.code t0.A t0.k t0.c.nodes t0.c.closed W m3 ((m2.below HB3.out (fun k hk=>by first | exact hk | exact hk.1)).fr hb (fun k hk=>id)) m4
  rw[if_pos (by rw[mD.out];exact m1)] at this
  exact this.mono (fun e w' ⟨UW,Uz,xV,Kj,Kc,vF,h1,h2,h3,h4,h5⟩=>⟨UW,Uz,xV,Kj,Kc,vF,h1,h2,h3,h5⟩))
 have jh:=ħ fun (W':World) (hb:Fr (fun _=>False) w5 W')=>(show W'.cell? ⟨w.heap.size,0,none⟩=some (ι x.id)∧W'.cell? ⟨bk A2,qP A2,none⟩=some (ι t0.c.call)∧W'.cell? ⟨bk A2,qP A2+1,none⟩=some (ι t0.c.inc)∧W'.cell? ⟨bk A2,qP A2+2,none⟩=some (ι t0.c.urg)∧W'.cell? ⟨bk A2,qP A2+3,none⟩=some (.string t0.c.code)∧W'.cell? ⟨bk A2,qP A2+4,none⟩=some (.slice t0.A t0.c.nodes.length t0.k)∧W'.cell? ⟨bk A2,qP A2+5,none⟩=some (ι t0.c.dist)∧W'.cell? ⟨bk A2,qP A2+6,none⟩=some (ι t0.c.since)∧W'.cell? ⟨bk A2,qP A2+7,none⟩=some (.bool t0.c.closed) from by
  have hr0:=jG (jB.out.fr hb (fun k hk=>id)) (k:=0) (by simp)
  rw[show qP A2+0 * 8=qP A2 by omega] at hr0
  exact ⟨by rw[zb.cell (qx.out.fr hb id)];rfl,hr0 0 _ rfl,hr0 1 _ rfl,hr0 2 _ rfl,hr0 3 _ rfl,hr0 4 _ rfl,hr0 5 _ rfl,hr0 6 _ rfl,hr0 7 _ rfl⟩)
 have l8:=ħ m4
 clear m1 m2 m3 m4
 generalize hQ:bodyPost Tryz.prog Tryz.f30 (yY D x cs w)=Q
 dsimp only [Q5,Tryz.f30,Option.getD]
 subst hQ
 go_upto_region 18 with (fail)
 go_cut [11] (fun v wx=>∃ p UW Uz xV Kj Kc vF,v=.pointer (some ⟨p,0,none⟩)∧w5.heap.size≤p∧zb wx p 48 #[ι x.id,ι t0.c.urg,.string t0.c.code,.slice UW t0.c.nodes.length Kj,ι t0.c.dist,ι t0.c.since,.slice Uz 1 Kc,.slice xV 0 vF,ι 0,.bool false]∧wx.ownsRow w5.heap.size 3 1 (.slice UW t0.c.nodes.length Kj) t0.c.nodes.length (t0.c.nodes.map (Value.int .i64))∧wx.ownsRow w5.heap.size 2 1 (.slice Uz 1 Kc) 1 [ι t0.c.call]∧Fr (fun _=>False) w5 wx)
 case first=>
  refine qW (S:=fun w'=>Fr (fun _=>False) w5 w') #[{ dst:=some 91,op:=Op.fieldAddr 48 (Operand.tmp 2) 0,type:=0,pos:= "ref.go:162",after:=#[],guard:=none },{ dst:=some 92,op:=Op.load 2 (Operand.tmp 91),type:=2,pos:= "ref.go:162",after:=#[{ on:=0,ground:=Ground.data }],guard:=none },{ dst:=some 93,op:=Op.move (Operand.tmp 6),type:=27,pos:= "ref.go:162",after:=#[],guard:=none },{ dst:=some 94,op:=Op.indexAddr 27 (Operand.tmp 93) (Operand.const (Go.Value.int Go.IntKind.i64 0)),type:=0,pos:= "ref.go:162",after:=#[{ on:=2,ground:=Ground.data }],guard:=none },{ dst:=some 95,op:=Op.load 34 (Operand.tmp 94),type:=34,pos:= "ref.go:162",after:=#[{ on:=3,ground:=Ground.data }],guard:=none },{ dst:=some 96,op:=Op.call { callee:=Callee.value (Operand.func 71),args:=#[Operand.tmp 92,Operand.tmp 95],argTypes:=#[2,34] },type:=62,pos:= "ref.go:162",after:=#[{ on:=1,ground:=Ground.data },{ on:=4,ground:=Ground.data }],guard:=none },{ dst:=some 90,op:=Op.move (Operand.tmp 96),type:=62,pos:= "ref.go:162",after:=#[{ on:=5,ground:=Ground.data }],guard:=none },{ dst:=some 97,op:=Op.extract (Operand.tmp 90) 0,type:=48,pos:= "ref.go:162",after:=#[{ on:=6,ground:=Ground.data }],guard:=none },{ dst:=some 98,op:=Op.extract (Operand.tmp 90) 1,type:=42,pos:= "ref.go:162",after:=#[{ on:=6,ground:=Ground.data },{ on:=10,ground:=Ground.gcOnly Go.Departure.lateStores }],guard:=none },{ dst:=some 11,op:=Op.alloc 48,type:=0,pos:= "ref.go:162",after:=#[],guard:=none },{ dst:=none,op:=Op.store 48 (Operand.tmp 11) (Operand.tmp 97),type:=0,pos:= "ref.go:162",after:=#[{ on:=9,ground:=Ground.data },{ on:=7,ground:=Ground.data },{ on:=5,ground:=Ground.chain },{ on:=0,ground:=Ground.phase },{ on:=1,ground:=Ground.phase },{ on:=2,ground:=Ground.phase },{ on:=3,ground:=Ground.phase },{ on:=4,ground:=Ground.phase },{ on:=5,ground:=Ground.phase },{ on:=6,ground:=Ground.phase },{ on:=7,ground:=Ground.phase },{ on:=8,ground:=Ground.textOnly Go.Departure.lateStores },{ on:=9,ground:=Ground.phase }],guard:=none }] { dst:=some 12,op:=Op.assign (Operand.tmp 98),type:=42,pos:= "ref.go:162",after:=#[{ on:=8,ground:=Ground.data },{ on:=10,ground:=Ground.chain },{ on:=0,ground:=Ground.phase },{ on:=1,ground:=Ground.phase },{ on:=2,ground:=Ground.phase },{ on:=3,ground:=Ground.phase },{ on:=4,ground:=Ground.phase },{ on:=5,ground:=Ground.phase },{ on:=6,ground:=Ground.phase },{ on:=7,ground:=Ground.phase },{ on:=8,ground:=Ground.phase },{ on:=9,ground:=Ground.phase },{ on:=10,ground:=Ground.phase }],guard:=none } (by rfl) (by kernel_rfl) (by kernel_rfl) ?_ (fun hHeld=>?_)
  ·exact (Fr.refl _ _).drew
  have HR:=ħ hHeld
  generalize w5.drew=wx at *
  refine wpAnyH_take (i:=0) (v:=?v0) rfl (by kernel_rfl) (by kernel_rfl) (by kernel_rfl) (fun _ _ _ h=>h) (Or.inl ⟨by rfl,?hy0⟩) hHeld ?rest0
  case hy0=>
   intro w0 hSw
   obtain ⟨e0,e1,e2,e3,e4,e5,e6,e7,e8⟩:=jh.out w0 hSw
   go_simp
   try with_reducible rfl
  try simp only[Act.put,σa,σb,σc]
  refine wpAnyH_take (i:=1) (v:=?v1) rfl (by kernel_rfl) (by kernel_rfl) (by kernel_rfl) (fun _ _ _ h=>h) (Or.inl ⟨by rfl,?hy1⟩) hHeld ?rest1
  case hy1=>
   intro w0 hSw
   obtain ⟨e0,e1,e2,e3,e4,e5,e6,e7,e8⟩:=jh.out w0 hSw
   go_simp
   try with_reducible rfl
  try simp only[Act.put,σa,σb,σc]
  refine wpAnyH_take (i:=2) (v:=?v2) rfl (by kernel_rfl) (by kernel_rfl) (by kernel_rfl) (fun _ _ _ h=>h) (Or.inl ⟨by rfl,?hy2⟩) hHeld ?rest2
  case hy2=>
   intro w0 hSw
   obtain ⟨e0,e1,e2,e3,e4,e5,e6,e7,e8⟩:=jh.out w0 hSw
   go_simp
   try with_reducible rfl
  try simp only[Act.put,σa,σb,σc]
  refine wpAnyH_take (i:=3) (v:=?v3) rfl (by kernel_rfl) (by kernel_rfl) (by kernel_rfl) (fun _ _ _ h=>h) (Or.inl ⟨by rfl,?hy3⟩) hHeld ?rest3
  case hy3=>
   intro w0 hSw
   obtain ⟨e0,e1,e2,e3,e4,e5,e6,e7,e8⟩:=jh.out w0 hSw
   go_simp
   try with_reducible rfl
  try simp only[Act.put,σa,σb,σc]
  refine wpAnyH_take (i:=4) (v:=?v4) rfl (by kernel_rfl) (by kernel_rfl) (by kernel_rfl) (fun _ _ _ h=>h) (Or.inl ⟨by rfl,?hy4⟩) hHeld ?rest4
  case hy4=>
   intro w0 hSw
   obtain ⟨e0,e1,e2,e3,e4,e5,e6,e7,e8⟩:=jh.out w0 hSw
   go_simp
   try with_reducible rfl
  try simp only[Act.put,σa,σb,σc]
  refine wpAnyH_ready (rs:=[5,9]) (by kernel_rfl) (by simp) ?_
  refine AllReadyH.cons rfl (fun K hK=>?_) ?_
  ·skip
   go_simp
   go_wp2_with (go_at_call 71;((with_reducible refine (Gu.out _ HR.out).mono ?_);rintro e wz ⟨UW,Uz,xV,Kj,Kc,vF,rfl,mF,hc6,hbz⟩))
   have y5:=ħ (World.ownsRow.mono mF (show w5.heap.size≤_ from HR.out.size))
   have XE:=ħ (World.ownsRow.mono hc6 (show w5.heap.size≤_ from HR.out.size))
   clear mF hc6
   replace HR:=ħ (HR.out.trans (Fr.of_below hbz (S:=fun _=>False)))
   try replace HZ:=ħ (HZ.out.below hbz HZ.out.lt)
   clear hbz
   obtain ⟨wx,hwx⟩:∃ wx,wx=wz:=⟨_,rfl⟩
   rw[←hwx] at HR⊢
   try rw[←hwx] at HZ
   try rw[←hwx] at y5
   try rw[←hwx] at XE
   clear hwx
   refine hK.out _ _ ?_ (fun hHeld=>?_)
   ·exact HR.out
   clear hK K
   try simp only[Act.put,σa,σb,σc]
   refine wpAnyH_take (i:=6) (v:=?v5) rfl (by kernel_rfl) (by kernel_rfl) (by kernel_rfl) (fun _ _ _ h=>h) (Or.inl ⟨by rfl,?hy5⟩) hHeld ?rest5
   case hy5=>
    intro w0 hSw
    obtain ⟨e0,e1,e2,e3,e4,e5,e6,e7,e8⟩:=jh.out w0 hSw
    go_simp
    try with_reducible rfl
   try simp only[Act.put,σa,σb,σc]
   refine wpAnyH_take (i:=7) (v:=?v6) rfl (by kernel_rfl) (by kernel_rfl) (by kernel_rfl) (fun _ _ _ h=>h) (Or.inl ⟨by rfl,?hy6⟩) hHeld ?rest6
   case hy6=>
    intro w0 hSw
    obtain ⟨e0,e1,e2,e3,e4,e5,e6,e7,e8⟩:=jh.out w0 hSw
    go_simp
    try with_reducible rfl
   try simp only[Act.put,σa,σb,σc]
   refine wpAnyH_take (i:=8) (v:=?v7) rfl (by kernel_rfl) (by kernel_rfl) (by kernel_rfl) (fun _ _ _ h=>h) (Or.inl ⟨by rfl,?AY⟩) hHeld ?rest7
   case AY=>
    intro w0 hSw
    obtain ⟨e0,e1,e2,e3,e4,e5,e6,e7,e8⟩:=jh.out w0 hSw
    go_simp
    try with_reducible rfl
   try simp only[Act.put,σa,σb,σc]
   refine wpAnyH_ready (rs:=[9]) (by kernel_rfl) (by simp) ?_
   refine AllReadyH.cons rfl (fun K hK=>?_) ?_
   ·skip
    go_simp
    have hbn:=zb.new wx 48 ζ
    have hge:=HR.out.size
    have hrn:=HR.out.alloc (.cells ζ 48)
    try replace y5:=ħ (y5.out.alloc (.cells ζ 48))
    try replace XE:=ħ (XE.out.alloc (.cells ζ 48))
    generalize wx.alloc _=wz at *
    generalize wx.heap.size=gz at *
    have HZ:=ħ hbn
    have HG:=ħ hge
    replace HR:=ħ hrn
    clear hbn hge hrn
    obtain ⟨wx,hwx⟩:∃ wx,wx=wz:=⟨_,rfl⟩
    rw[←hwx] at HR⊢
    try rw[←hwx] at HZ
    try rw[←hwx] at y5
    try rw[←hwx] at XE
    clear hwx
    refine hK.out _ _ ?_ (fun hHeld=>?_)
    ·exact HR.out
    clear hK K
    try simp only[Act.put,σa,σb,σc]
    refine wpAnyH_ready (rs:=[10]) (by kernel_rfl) (by simp) ?_
    refine AllReadyH.cons rfl (fun K hK=>?_) ?_
    ·skip
     refine zf _ (by rfl) (.tmp 11) (.tmp 97) 48 (by rfl) _ 48 _ #[ι x.id,ι t0.c.urg,.string t0.c.code,.slice UW t0.c.nodes.length Kj,ι t0.c.dist,ι t0.c.since,.slice Uz 1 Kc,.slice xV 0 vF,ι 0,.bool false] _ 10 136 zJ (by rfl) (by rfl) (by rfl) HZ.out (by rfl) (zH (by simp[Value.oneCell'])) ?_
     intro wz hbz hfz hsz
     replace y5:=ħ (zY y5.out hfz (zR y5.out HZ.out (by decide)))
     replace XE:=ħ (zY XE.out hfz (zR XE.out HZ.out (by decide)))
     replace HR:=ħ (show Fr (fun _=>False) w5 wz from ⟨hfz.os.trans HR.out.os,hfz.tape.trans HR.out.tape,hfz.output.trans HR.out.output,Nat.le_trans HR.out.size hfz.size,fun k hk _=>(hfz.block k (Nat.lt_of_lt_of_le hk HR.out.size) (by have:=HG.out;omega)).trans (HR.out.block k hk id)⟩)
     replace HZ:=ħ hbz
     clear hbz hfz hsz
     obtain ⟨wx,hwx⟩:∃ wx,wx=wz:=⟨_,rfl⟩
     rw[←hwx] at HR⊢
     try rw[←hwx] at HZ
     try rw[←hwx] at y5
     try rw[←hwx] at XE
     clear hwx
     refine hK.out _ _ ?_ (fun hHeld=>?_)
     ·exact HR.out
     clear hK K
     try simp only[Act.put,σa,σb,σc]
     refine wpAnyH_done (by kernel_rfl) ?_ _
     refine qb _ rfl (fun K hK=>?_)
     go_simp
     refine hK _ _ ?_
     go_wp2_with fail
     go_meet
     case rel=>exact ⟨_,UW,Uz,xV,Kj,Kc,vF,rfl,HG.out,HZ.out,y5.out,XE.out,HR.out⟩
    exact AllReadyH.nil
   exact AllReadyH.nil
  refine AllReadyH.cons rfl (fun K hK=>?_) ?_
  ·skip
   go_simp
   have hbn:=zb.new wx 48 ζ
   have hge:=HR.out.size
   have hrn:=HR.out.alloc (.cells ζ 48)
   try replace y5:=ħ (y5.out.alloc (.cells ζ 48))
   try replace XE:=ħ (XE.out.alloc (.cells ζ 48))
   generalize wx.alloc _=wz at *
   generalize wx.heap.size=gz at *
   have HZ:=ħ hbn
   have HG:=ħ hge
   replace HR:=ħ hrn
   clear hbn hge hrn
   obtain ⟨wx,hwx⟩:∃ wx,wx=wz:=⟨_,rfl⟩
   rw[←hwx] at HR⊢
   try rw[←hwx] at HZ
   try rw[←hwx] at y5
   try rw[←hwx] at XE
   clear hwx
   refine hK.out _ _ ?_ (fun hHeld=>?_)
   ·exact HR.out
   clear hK K
   try simp only[Act.put,σa,σb,σc]
   refine wpAnyH_ready (rs:=[5]) (by kernel_rfl) (by simp) ?_
   refine AllReadyH.cons rfl (fun K hK=>?_) ?_
   ·skip
    go_simp
    go_wp2_with (go_at_call 71;((with_reducible refine (Gu.out _ HR.out).mono ?_);rintro e wz ⟨UW,Uz,xV,Kj,Kc,vF,rfl,mF,hc6,hbz⟩))
    have y5:=ħ (World.ownsRow.mono mF (show w5.heap.size≤_ from HR.out.size))
    have XE:=ħ (World.ownsRow.mono hc6 (show w5.heap.size≤_ from HR.out.size))
    clear mF hc6
    replace HR:=ħ (HR.out.trans (Fr.of_below hbz (S:=fun _=>False)))
    try replace HZ:=ħ (HZ.out.below hbz HZ.out.lt)
    clear hbz
    obtain ⟨wx,hwx⟩:∃ wx,wx=wz:=⟨_,rfl⟩
    rw[←hwx] at HR⊢
    try rw[←hwx] at HZ
    try rw[←hwx] at y5
    try rw[←hwx] at XE
    clear hwx
    refine hK.out _ _ ?_ (fun hHeld=>?_)
    ·exact HR.out
    clear hK K
    try simp only[Act.put,σa,σb,σc]
    refine wpAnyH_take (i:=6) (v:=?v8) rfl (by kernel_rfl) (by kernel_rfl) (by kernel_rfl) (fun _ _ _ h=>h) (Or.inl ⟨by rfl,?BQ⟩) hHeld ?rest8
    case BQ=>
     intro w0 hSw
     obtain ⟨e0,e1,e2,e3,e4,e5,e6,e7,e8⟩:=jh.out w0 hSw
     go_simp
     try with_reducible rfl
    try simp only[Act.put,σa,σb,σc]
    refine wpAnyH_take (i:=7) (v:=?v9) rfl (by kernel_rfl) (by kernel_rfl) (by kernel_rfl) (fun _ _ _ h=>h) (Or.inl ⟨by rfl,?hy9⟩) hHeld ?rest9
    case hy9=>
     intro w0 hSw
     obtain ⟨e0,e1,e2,e3,e4,e5,e6,e7,e8⟩:=jh.out w0 hSw
     go_simp
     try with_reducible rfl
    try simp only[Act.put,σa,σb,σc]
    refine wpAnyH_take (i:=8) (v:=?v10) rfl (by kernel_rfl) (by kernel_rfl) (by kernel_rfl) (fun _ _ _ h=>h) (Or.inl ⟨by rfl,?hy10⟩) hHeld ?rest10
    case hy10=>
     intro w0 hSw
     obtain ⟨e0,e1,e2,e3,e4,e5,e6,e7,e8⟩:=jh.out w0 hSw
     go_simp
     try with_reducible rfl
    try simp only[Act.put,σa,σb,σc]
    refine wpAnyH_ready (rs:=[10]) (by kernel_rfl) (by simp) ?_
    refine AllReadyH.cons rfl (fun K hK=>?_) ?_
    ·skip
     refine zf _ (by rfl) (.tmp 11) (.tmp 97) 48 (by rfl) _ 48 _ #[ι x.id,ι t0.c.urg,.string t0.c.code,.slice UW t0.c.nodes.length Kj,ι t0.c.dist,ι t0.c.since,.slice Uz 1 Kc,.slice xV 0 vF,ι 0,.bool false] _ 10 136 zJ (by rfl) (by rfl) (by rfl) HZ.out (by rfl) (zH (by simp[Value.oneCell'])) ?_
     intro wz hbz hfz hsz
     replace y5:=ħ (zY y5.out hfz (zR y5.out HZ.out (by decide)))
     replace XE:=ħ (zY XE.out hfz (zR XE.out HZ.out (by decide)))
     replace HR:=ħ (show Fr (fun _=>False) w5 wz from ⟨hfz.os.trans HR.out.os,hfz.tape.trans HR.out.tape,hfz.output.trans HR.out.output,Nat.le_trans HR.out.size hfz.size,fun k hk _=>(hfz.block k (Nat.lt_of_lt_of_le hk HR.out.size) (by have:=HG.out;omega)).trans (HR.out.block k hk id)⟩)
     replace HZ:=ħ hbz
     clear hbz hfz hsz
     obtain ⟨wx,hwx⟩:∃ wx,wx=wz:=⟨_,rfl⟩
     rw[←hwx] at HR⊢
     try rw[←hwx] at HZ
     try rw[←hwx] at y5
     try rw[←hwx] at XE
     clear hwx
     refine hK.out _ _ ?_ (fun hHeld=>?_)
     ·exact HR.out
     clear hK K
     try simp only[Act.put,σa,σb,σc]
     refine wpAnyH_done (by kernel_rfl) ?_ _
     refine qb _ rfl (fun K hK=>?_)
     go_simp
     refine hK _ _ ?_
     go_wp2_with fail
     go_meet
     case rel=>exact ⟨_,UW,Uz,xV,Kj,Kc,vF,rfl,HG.out,HZ.out,y5.out,XE.out,HR.out⟩
    exact AllReadyH.nil
   exact AllReadyH.nil
  exact AllReadyH.nil
 case rest=>
  obtain ⟨p,UW,Uz,xV,Kj,Kc,vF,rfl,hp,hz,hn2,hc3,hf⟩:=hcut
  have Zm:=ħ hz
  have yx:=ħ hn2
  have Dm:=ħ hc3
  have ZR:=ħ hf
  clear hz hn2 hc3 hf Gu jh d1 rQ
  rename_i KK hKK
  refine hKK _ _ ?_
  clear hKK
  refine ZZ (c':=Q5 [true,true,true,true,true,true] (Tryz.f30.body.getD .skip)) (by kernel_rfl) ?_
  exact Hm D x An Ac Au cn cc cu t0 r cs A2 c2 n w w5 wc hn hc2 p UW Uz xV Kj Kc vF hp HU qx RF HB3 YM jB Zh AA Zm yx Dm ZR _ _ _ _ _ _ _ _ _ _ _ _ _ _ _ _ _ _ _ _ _ _ _ _ _ _ _ _ _ _ _ _ _ _ _ _ _ _ _ _ _ _ _ _ _ _ _ _ _ _ _ _ _ _ _ _ _ _ _ _ _ _ _ _ _ _ _ _ _ _ _ _ _ _ _ _ _ _ _ _ _ _ _ _ _ _ _ _ _ _ _ _ _ _ _ _ _ _ _ _ _ _ _ _ _ _ _ _ _ _ _ _ _ _ _ _ _ _ _ _ _ _ _ _ _ _ _ _ _ _ _ _
end Go.Proofs.YtdhcjhfgibmhfaaGreatDoor
