import Derived.Test.YtdhcjhfgibmhfaaGreatDoorJG7
set_option linter.unusedVariables false
set_option linter.unusedSimpArgs false
set_option maxRecDepth 10000
set_option maxHeartbeats 16000000
namespace Go.Proofs.YtdhcjhfgibmhfaaGreatDoor
open Go.RowKit Go.Own Go.Quo Go.Inc
theorem aT (x:Ic)(An Ac Au:Option Addr)(cn cc cu:Nat)(t0:Ca)(r:List Ca)(cs:List Cr)(A2:Option Addr)(c2 n:Nat)(w w5:World)(ln:x.nodes.length≤100000)(lc:x.calls.length≤100000)(lu:x.units.length≤100000)(hn:n≤1000)(hc2:n≤c2)
 (HT:RowKit.Hid (jg w)) (HN:RowKit.Hid (RI w (· < w.heap.size) An x.nodes)) (HC:RowKit.Hid (RI w (· < w.heap.size) Ac x.calls)) (HU:RowKit.Hid (RI w (· < w.heap.size) Au x.units)) (qx:RowKit.Hid (zb w5 w.heap.size 48 (ξ x An cn Ac cc Au cu))) (RF:RowKit.Hid (zb w5 (w.heap.size+1) 48 ζ)) (HB3:RowKit.Hid (Below w.heap.size w w5))
 (YM:RowKit.Hid (n=r.length+1)) (jB:RowKit.Hid (Reads w5 (· < w5.heap.size) 8 A2 (t0 :: r).length ((t0 :: r).flatMap qC))) (Zh:RowKit.Hid (∀ t∈t0 :: r,yz t.c=true∧RI w (· < w.heap.size) t.A t.c.nodes∧t.c.code.size≤100000∧t.c.nodes.length≤100000)) (mV:RowKit.Hid (jC x=true)) (XO:RowKit.Hid (((t0 :: r).map (·.c)).Perm cs)) (VG:RowKit.Hid (((t0 :: r).map (·.c)).Pairwise UD)) (s0 s1 s3 s5 s6 s7 s9 s10 s11 s12 s13 vw s15 s16 xQ xP xS s20 xM vD xK s24 xZ xO xX Sw vB xL vz x_ xN vE kw Df kR D7 Dt DD kg kE s43 s44 DK De kC D9 s49 uI uS D8 s53 DC Dk kX Du uO Dn Dy D5 kK uJ kF Dz DJ Dw s68:Value) :
 (sub [true,true,true,true,true,true] (Tryz.f107.body.getD .skip)).wp Tryz.prog (bodyPost Tryz.prog Tryz.f107 (Q7 x cs w)) ⟨#[s0,s1,.pointer (some ⟨w.heap.size,0,none⟩),s3,.pointer (some ⟨w.heap.size+1,0,none⟩),s5,s6,s7,.slice A2 n c2,s9,s10,s11,s12,s13,vw,s15,s16,xQ,xP,xS,s20,xM,vD,xK,s24,xZ,xO,xX,Sw,vB,xL,vz,x_,xN,vE,kw,Df,kR,D7,Dt,DD,kg,kE,s43,s44,DK,De,kC,D9,s49,uI,uS,D8,s53,DC,Dk,kX,Du,uO,Dn,Dy,D5,kK,uJ,kF,Dz,DJ,Dw,s68],[]⟩ w5:=by
 have hpos:0<n:=by have:=YM.out;omega
 have hr3:Reads w5 (· < w5.heap.size) 8 A2 n ((t0 :: r).flatMap qC):=by have:=jB.out;rw[List.length_cons,←YM.out] at this;exact this
 have Al:=ħ (Ym hr3 YM.out hc2)
 have hp3:=hr3.plain (by omega)
 have hpt:=Al.out.plain (by omega)
 have rQ:∀ W:World,(Instr.indexAt 27 (.slice A2 n c2) (ι 0)).run Tryz.prog W=.ok (.pointer (some ⟨bk A2,qP A2,none⟩)) W:=fun W=>by simpa using VD hp3 c2 0 hpos W
 have hcut:∀ W:World,(Instr.slice 27 (.slice A2 n c2) (some (ι 1)) none none).run Tryz.prog W=.ok (.slice (ZH A2 c2) r.length (c2 - 1)) W:=fun W=>by
  have:=Q3 (A:=A2) (c:=c2) (show 1≤n from hpos) W
  rw[YM.out,Nat.add_sub_cancel] at this;rw[YM.out];exact this
 have fJ:∀ W:World,(Instr.sliceAt 27 (.slice A2 n c2) (some (ι 1)) none none).run Tryz.prog W=.ok (.slice (ZH A2 c2) r.length (c2 - 1)) W:=fun W=>by
  have:=QC (A:=A2) (c:=c2) (show 1≤n from hpos) W
  rw[YM.out,Nat.add_sub_cancel] at this;rw[YM.out];exact this
 clear hr3
 generalize hQ:bodyPost Tryz.prog Tryz.f107 (Q7 x cs w)=Q
 dsimp only [sub,Tryz.f107,Option.getD]
 subst hQ
 have hS:=HB3.out.size
 have ME:=ħ (lg _ x.id x.urg x.dist x.since x.merged x.code x.nodes x.calls x.units An Ac Au cn cc cu x.closed w5 (HN.out.below HB3.out (fun k hk=>hk)) (HC.out.below HB3.out (fun k hk=>hk)) (HU.out.below HB3.out (fun k hk=>hk)) ln lc lu)
 have x0:=qx.out.facts
 go_upto_region 14 with (go_at_call 150;((with_reducible refine ME.out.mono ?_);rintro e w6 ⟨iN,ll,Vk,ig,iZ,XU,rfl,mF,hc6,Mf,hb6⟩;have C_:=ħ Mf;have U6:=ħ (RF.out.below hb6 RF.out.lt);have GL:=ħ hb6;have Qq:=ħ (HB3.out.trans (hb6.mono hS));clear mF hc6 Mf hb6 x0))
 have KR:=ħ (zb.new w6 48 (ξ x iN ig ll iZ Vk XU))
 have RZ:=ħ (U6.out.alloc (.cells (ξ x iN ig ll iZ Vk XU) 48))
 have Z7:=ħ (Qq.out.alloc Qq.out.size (.cells (ξ x iN ig ll iZ Vk XU) 48))
 have xm:=ħ (GL.out.alloc GL.out.size (.cells (ξ x iN ig ll iZ Vk XU) 48))
 have cK:=ħ (own_below C_.out ((Below.refl w6.heap.size w6).alloc (Nat.le_refl _) (.cells (ξ x iN ig ll iZ Vk XU) 48)) (fun g hg=>(C_.out.lt g hg).2))
 have LA:w.heap.size+1<w5.heap.size:=RF.out.lt
 have hSp:w5.heap.size≤w6.heap.size:=GL.out.size
 have Mw:w6.heap.size<(w6.alloc (.cells (ξ x iN ig ll iZ Vk XU) 48)).heap.size:=KR.out.lt
 clear U6 Qq GL C_ qx RF
 obtain ⟨p,hpe⟩:∃ p,p=w6.heap.size:=⟨_,rfl⟩
 rw[←hpe] at KR hSp Mw⊢
 clear hpe
 generalize w6.alloc _=W7 at *
 have hr0:W7.rangeAt (bk A2) (qP A2) [ι t0.c.call,ι t0.c.inc,ι t0.c.urg,.string t0.c.code,.slice t0.A t0.c.nodes.length t0.k,ι t0.c.dist,ι t0.c.since,.bool t0.c.closed]:=by
  have:=jG (jB.out.below xm.out (fun k hk=>hk)) (k:=0) (by simp)
  rw[show qP A2+0 * 8=qP A2 by omega] at this
  exact this
 obtain ⟨m1,m2,m3,m4⟩:=Zh.out t0 (by simp)
 have Lu:=ħ (show Calls Tryz.prog 128 #[.pointer (some ⟨p,0,none⟩),.agg (χ t0.c t0.A t0.k)] W7 (U3 p (ι x.id) (ι x.dist) (.slice Vk x.units.length XU) (ι x.merged) (.bool x.closed) t0.c W7) from ko (fun k=>k<w.heap.size) p (ι x.id) (ι x.urg) (.string x.code) (.slice iN x.nodes.length ig) (ι x.dist) (ι x.since) (.slice ll x.calls.length iZ) (.slice Vk x.units.length XU) (ι x.merged) (.bool x.closed) t0.c.call t0.c.inc t0.c.urg t0.c.dist t0.c.since t0.c.code t0.A t0.k t0.c.nodes t0.c.closed W7 KR.out (m2.below Z7.out (fun k hk=>hk)) (fun k hk=>by omega) m4)
 have y8:=ħ (YJ m1)
 clear m1 m2 m3 m4
 go_upto_block 2 with (first
  | (refine wpList_load_mid rfl 34 _ rfl (bk A2) (qP A2) rfl [ι t0.c.call,ι t0.c.inc,ι t0.c.urg,.string t0.c.code,.slice t0.A t0.c.nodes.length t0.k,ι t0.c.dist,ι t0.c.since,.bool t0.c.closed] _ hr0 Tryz.underlying34 rfl Jw ?_)
  | (go_at_call 128;((with_reducible refine Lu.out.mono ?_);rintro e w8 ⟨A3,c3,A4,rfl,nJ,eB,hc8,zI⟩;have gI:=ħ nJ;have V6:=ħ eB;have MU:=ħ hc8;have xU:=ħ zI;clear nJ eB hc8 zI)))
 have I5:w5.heap.size≤W7.heap.size:=xm.out.size
 have LW:=ħ (zY cK.out xU.out (zR cK.out KR.out (by decide)))
 have E9:=ħ (RZ.out.fr xU.out (by omega))
 have Jy:=ħ (Z7.out.trans (xU.out.below Z7.out.size (fun k hk e=>by omega)))
 have lC:=ħ (xm.out.trans (xU.out.below xm.out.size (fun k hk e=>by omega)))
 have HI:=ħ (show ∃ (k:Nat) (urg since:Int) (code:ByteArray) (nodes calls:List Int) (Y4:Option Addr) (YA:Nat) (Qs:Option Addr) (Qu:Nat),k≤r.length∧ι 0=ι (k:Int)∧(⟨x.id,urg,code,nodes,x.dist,since,calls,x.units,x.merged,x.closed⟩:Ic)=((r.map (·.c)).take k).foldl qV (Qa x t0.c)∧zb w8 p 48 #[ι x.id,ι urg,.string code,.slice Y4 nodes.length YA,ι x.dist,ι since,.slice Qs calls.length Qu,.slice Vk x.units.length XU,ι x.merged,.bool x.closed]∧w8.ownsRow w5.heap.size 3 1 (.slice Y4 nodes.length YA) nodes.length (nodes.map (Value.int .i64))∧w8.ownsRow w5.heap.size 2 1 (.slice Qs calls.length Qu) calls.length (calls.map (Value.int .i64))∧w8.ownsRow w5.heap.size 3 1 (.slice Vk x.units.length XU) x.units.length (x.units.map (Value.int .i64))∧zb w8 (w.heap.size+1) 48 ζ∧Below w.heap.size w w8∧Below w5.heap.size w5 w8∧(qf nodes 0 4095=true∧0<nodes.length∧calls.length=k+1) from ⟨0,t0.c.urg,t0.c.since,t0.c.code,t0.c.nodes,[t0.c.call],A3,c3,A4,1,Nat.zero_le _,rfl,rfl,gI.out,World.ownsRow.mono V6.out I5,World.ownsRow.mono MU.out I5,LW.out,E9.out,Jy.out,lC.out,y8.out.1,y8.out.2,rfl⟩)
 clear KR RZ Z7 xm cK gI V6 MU xU LW E9 Jy lC Lu y8 ME hr0 I5 Mw
 go_wp2_with fail
 go_loopw [49] (fun vi wr=>∃ (k:Nat) (urg since:Int) (code:ByteArray) (nodes calls:List Int) (Y4:Option Addr) (YA:Nat) (Qs:Option Addr) (Qu:Nat),k≤r.length∧vi=ι (k:Int)∧(⟨x.id,urg,code,nodes,x.dist,since,calls,x.units,x.merged,x.closed⟩:Ic)=((r.map (·.c)).take k).foldl qV (Qa x t0.c)∧zb wr p 48 #[ι x.id,ι urg,.string code,.slice Y4 nodes.length YA,ι x.dist,ι since,.slice Qs calls.length Qu,.slice Vk x.units.length XU,ι x.merged,.bool x.closed]∧wr.ownsRow w5.heap.size 3 1 (.slice Y4 nodes.length YA) nodes.length (nodes.map (Value.int .i64))∧wr.ownsRow w5.heap.size 2 1 (.slice Qs calls.length Qu) calls.length (calls.map (Value.int .i64))∧wr.ownsRow w5.heap.size 3 1 (.slice Vk x.units.length XU) x.units.length (x.units.map (Value.int .i64))∧zb wr (w.heap.size+1) 48 ζ∧Below w.heap.size w wr∧Below w5.heap.size w5 wr∧(qf nodes 0 4095=true∧0<nodes.length∧calls.length=k+1)) (fun vi _=>r.length - (intOf vi).toNat)
 case atStart=>exact HI.out
 case round=>
  obtain ⟨k,urg,since,code,nodes,calls,Y4,YA,Qs,Qu,hk2,rfl,hy,nJ,eB,hc8,LH,BQ,zW,yL,Mh⟩:=hrel
  have HE:=ħ hy
  have HP:=ħ nJ
  have fT:=ħ eB
  have AJ:=ħ hc8
  have eT:=ħ LH
  have HY:=ħ BQ
  have HB:=ħ zW
  have HS:=ħ yL
  have HV:=ħ Mh
  clear hy nJ eB hc8 LH BQ zW yL Mh HI
  by_cases hlt:k<r.length
  ·have hlt':(k:Int)<r.length:=by omega
   have hix:=fun W=>VD hpt (c2 - 1) k hlt W
   obtain ⟨t,htk⟩:∃ t,t=r[k]:=⟨_,rfl⟩
   have hr:wr.rangeAt (bk (ZH A2 c2)) (qP (ZH A2 c2)+k * 8) [ι t.c.call,ι t.c.inc,ι t.c.urg,.string t.c.code,.slice t.A t.c.nodes.length t.k,ι t.c.dist,ι t.c.since,.bool t.c.closed]:=by
    have:=jG (Al.out.below HS.out (fun k hk=>hk)) hlt
    rw[←htk] at this
    exact this
   obtain ⟨m1,m2,m3,m4⟩:=Zh.out t (by rw[htk];exact List.mem_cons_of_mem _ (List.getElem_mem hlt))
   have Vt:=ħ (show ((r.map (·.c)).take (k+1))=((r.map (·.c)).take k) ++ [t.c] by
    rw[List.take_succ_eq_append_getElem (by simpa using hlt),List.getElem_map,←htk])
   clear htk
   have lG:=YJ m1
   have hS1:=HS.out.size
   have tH:=Below.refl wr.heap.size wr |>.alloc (Nat.le_refl _) (.cells (χ t.c t.A t.k) 34)
   have Qt:=ħ (HP.out.alloc (.cells (χ t.c t.A t.k) 34))
   have IR:=ħ (own_below fT.out tH (fun g hg=>(fT.out.lt g hg).2))
   have sw:=ħ (own_below AJ.out tH (fun g hg=>(AJ.out.lt g hg).2))
   have Iw:=ħ (own_below eT.out tH (fun g hg=>(eT.out.lt g hg).2))
   have xC:=ħ (HY.out.alloc (.cells (χ t.c t.A t.k) 34))
   have Jb:=ħ (HB.out.alloc HB.out.size (.cells (χ t.c t.A t.k) 34))
   have SI:=ħ (HS.out.alloc HS.out.size (.cells (χ t.c t.A t.k) 34))
   have Yi:=ħ (zb.new wr 34 (χ t.c t.A t.k))
   obtain ⟨v1,v2,v3⟩:=HV.out
   have hlen:=EH v1
   have hr1:=YM.out
   have hkb:k<1000:=by omega
   have OT:=ħ (Gs (fun b=>b<w.heap.size) p w5.heap.size x.id urg x.dist since code nodes calls Y4 Qs YA Qu (.slice Vk x.units.length XU) (ι x.merged) (.bool x.closed) t.c.call t.c.inc t.c.urg t.c.dist t.c.since t.c.code t.c.nodes t.A t.k t.c.closed x.merged x.units x.closed _ (jg.below HT.out Jb.out HT.out.lt) Qt.out IR.out sw.out (m2.below Jb.out (fun k hk=>hk)) (fun k hk=>by omega) (by omega) SI.out.size v1 lG.1 v2 lG.2 (by omega) m4 (by omega))
   have vg:=ħ (Gd (x:=⟨x.id,urg,code,nodes,x.dist,since,calls,x.units,x.merged,x.closed⟩) (c:=t.c) v1 v2)
   have HL2:=ħ (show (qV ⟨x.id,urg,code,nodes,x.dist,since,calls,x.units,x.merged,x.closed⟩ t.c).calls.length=k+1+1 by simp[qV,v3])
   clear hr1 hlen v1 v2 v3 lG m1 m2 m3 m4 tH hS1 HP fT AJ eT HY HB HS HV
   have x0:=Yi.out.facts
   go_wp2_with (first
    | (refine wpList_load_mid rfl 34 _ rfl (bk (ZH A2 c2)) (qP (ZH A2 c2)+k * 8) rfl [ι t.c.call,ι t.c.inc,ι t.c.urg,.string t.c.code,.slice t.A t.c.nodes.length t.k,ι t.c.dist,ι t.c.since,.bool t.c.closed] _ hr Tryz.underlying34 rfl Jw ?_)
    | (go_at_call 151;((with_reducible refine OT.out.mono ?_);rintro e w9 ⟨iQ,gW,kv,b_,rfl,lw,Lx,wQ,YS⟩;have eu:=ħ lw;have fI:=ħ Lx;have lF:=ħ wQ;have Yn:=ħ YS;clear lw Lx wQ YS)))
   have hcl:=fun g hg=>(sw.out.lt g hg).1
   exact ⟨⟨k+1,(qV ⟨x.id,urg,code,nodes,x.dist,since,calls,x.units,x.merged,x.closed⟩ t.c).urg,(qV ⟨x.id,urg,code,nodes,x.dist,since,calls,x.units,x.merged,x.closed⟩ t.c).since,(qV ⟨x.id,urg,code,nodes,x.dist,since,calls,x.units,x.merged,x.closed⟩ t.c).code,(qV ⟨x.id,urg,code,nodes,x.dist,since,calls,x.units,x.merged,x.closed⟩ t.c).nodes,(qV ⟨x.id,urg,code,nodes,x.dist,since,calls,x.units,x.merged,x.closed⟩ t.c).calls,iQ,gW,kv,b_,by omega,by go_num,
    by rw[Vt.out,List.foldl_append,←HE.out];rfl,eu.out,fI.out,lF.out,
    zY Iw.out Yn.out (fun g hg e=>by
     rcases e with e | e
     ·exact zR Iw.out Qt.out (by decide) g hg e
     ·exact jf Iw.out sw.out (by decide) g hg e.symm),
    xC.out.fr Yn.out (fun e=>e.elim (fun e=>by omega) (fun e=>by have:=hcl _ e;omega)),
    Jb.out.trans (Yn.out.below Jb.out.size (fun j hj e=>by
     rcases e with e | e
     ·omega
     ·have:=hcl _ e;omega)),
    SI.out.trans (Yn.out.below SI.out.size (fun j hj e=>by
     rcases e with e | e
     ·omega
     ·have:=hcl _ e;omega)),
    vg.out.1,vg.out.2,HL2.out⟩,by simp[intOf];omega⟩
  ·have hlt':¬ (k:Int)<r.length:=by omega
   have hk3:k=r.length:=by omega
   subst hk3
   have HE2:=ħ (show Vx x ((t0 :: r).map (·.c))=⟨x.id,urg,code,nodes,x.dist,since,calls,x.units,x.merged,x.closed⟩ by
    rw[HE.out,List.take_of_length_le (by simp)];rfl)
   have UO:=ħ (show Jp x ((t0 :: r).map (·.c))=if qf (Ya calls) 1 1099511627776=false then (zO,5) else if x.merged≠0 then (zO,8) else (⟨x.id,urg,code,nodes,x.dist,since,Ya calls,x.units,x.merged,x.closed⟩,0) by
    unfold Jp
    rw[HE2.out,if_neg (by rw[mV.out];simp),if_neg (by
     rw[Bool.not_eq_false,List.all_eq_true]
     intro c hc
     obtain ⟨t,ht,rfl⟩:=List.mem_map.1 hc
     exact (Zh.out t ht).1)])
   have dS:calls.length≤1000:=by have:=HV.out.2.2;have:=YM.out;omega
   have jv:=ħ (show True from trivial)
   go_upto_region 16 with (fail)
   iterate 14 go_step
   refine ZZ (c':=sub [true,true,true,true,true,true,true,true,true] (Tryz.f107.body.getD .skip)) (by kernel_rfl) ?_
   exact cB x _ cs urg since code nodes calls Y4 Qs Vk YA Qu XU p w w5 wr LA hSp dS HP fT AJ eT HY HB UO XO VG _ _ _ _ _ _ _ _ _ _ _ _ _ _ _ _ _ _ _ _ _ _ _ _ _ _ _ _ _ _ _ _ _ _ _ _ _ _ _ _ _ _ _ _ _ _ _ _ _ _ _ _ _ _ _ _ _ _ _ _ _ _ _ _ _ _ _
theorem Fz (x:Ic)(An Ac Au:Option Addr)(cn cc cu:Nat)(ts:List Ca)(A:Option Addr)(c:Nat)(w:World)(ht:jg w)(hn:RI w (· < w.heap.size) An x.nodes)(hc:RI w (· < w.heap.size) Ac x.calls)(hu:RI w (· < w.heap.size) Au x.units)(h:Reads w (· < w.heap.size) 8 A ts.length (ts.flatMap qC))(hts:∀ t∈ts,RI w (· < w.heap.size) t.A t.c.nodes)(hs:x.code.size≤100000)(ln:x.nodes.length≤100000)(lc:x.calls.length≤100000)(lu:x.units.length≤100000)(lt:ts.length≤1000)(Gb:∀ t∈ts,t.c.code.size≤100000∧t.c.nodes.length≤100000):Calls Tryz.prog 107 #[.agg (ξ x An cn Ac cc Au cu),.slice A ts.length c] w (Q7 x (ts.map (·.c)) w):=by
 by_cases h0:jC x=false∨ts=[]
 ·exact Gf x An Ac Au cn cc cu ts A c w ht hn hc hu h hts hs ln lc lu lt Gb h0
 have hi:jC x=true:=by cases hq:jC x with
  | true=>rfl
  | false=>exact absurd (.inl hq) h0
 have hpos:0<ts.length:=by
  rcases Nat.eq_zero_or_pos ts.length with e | e
  ·exact absurd (.inr (List.eq_nil_of_length_eq_zero e)) h0
  ·exact e
 clear h0
 have hp:=h.plain (by omega)
 have HR:=ħ h
 have HN:=ħ hn
 have HC:=ħ hc
 have HU:=ħ hu
 have Bz:=ħ hts
 have HT:=ħ ht
 have HL:=ħ Gb
 have GG:=ħ fun (W:World) (hb:Below w.heap.size w W)=>(show Calls Tryz.prog 124 #[.agg (ξ x An cn Ac cc Au cu)] W (qX (jC x) W) from kL _ x.id x.urg x.dist x.since x.merged x.code An Ac Au cn cc cu x.nodes x.calls x.units x.closed W hs (HN.out.below hb (fun k hk=>hk)) (HC.out.below hb (fun k hk=>hk)) (HU.out.below hb (fun k hk=>hk)) ln lc lu)
 have HB:=ħ (((Below.refl w.heap.size w).alloc (Nat.le_refl _) (.cells (ξ x An cn Ac cc Au cu) 48)).alloc (by simp) (.cells ζ 48))
 have HX:=ħ ((zb.new w 48 (ξ x An cn Ac cc Au cu)).alloc (.cells ζ 48))
 have HY:=ħ (show zb ((w.alloc (.cells (ξ x An cn Ac cc Au cu) 48)).alloc (.cells ζ 48)) (w.heap.size+1) 48 ζ by
  have:=zb.new (w.alloc (.cells (ξ x An cn Ac cc Au cu) 48)) 48 ζ
  simpa using this)
 have x0:=HX.out.facts
 have gT:=ħ fun (t:Ca) (hm:t∈ts) (W:World) (hb:Below w.heap.size w W)=>(show Calls Tryz.prog 127 #[.agg (χ t.c t.A t.k)] W (qX (yz t.c) W) from JA _ t.c.call t.c.inc t.c.urg t.c.dist t.c.since t.c.code t.A t.k t.c.nodes t.c.closed W (HL.out t hm).1 ((Bz.out t hm).below hb (fun k hk=>hk)) (HL.out t hm).2)
 clear hn hc hu h hts ht Gb
 have mV:=ħ hi
 rw[hi] at GG
 clear hi
 have d0:((ts.length:Int) == 0)=false:=by have:(ts.length:Int)≠0:=by omega
                                          rw[beq_eq_false_iff_ne];exact this
 go_enter Tryz.func107,Tryz.ntmps107
 go_upto_block 0 with (first | (go_at_call 124;((with_reducible refine (GG.out _ HB.out).mono ?_);rintro e w2 ⟨rfl,hb⟩;have HX:=ħ (HX.out.below hb HX.out.lt);have HY:=ħ (HY.out.below hb HY.out.lt);have HB:=ħ (HB.out.trans (hb.mono HB.out.size));clear hb x0;have x0:=HX.out.facts)))
 have HI:=ħ (show ∃ (k:Nat),k≤ts.length∧ι 0=ι (k:Int)∧(∀ (i:Nat) t,i<k→ts[i]?=some t→yz t.c=true)∧zb w2 w.heap.size 48 (ξ x An cn Ac cc Au cu)∧zb w2 (w.heap.size+1) 48 ζ∧Below w.heap.size w w2 from ⟨0,Nat.zero_le _,rfl,fun i t hi=>by omega,HX.out,HY.out,HB.out⟩)
 clear HX HY HB x0 GG d0
 go_wp2_with fail
 go_loopw [23] (fun vi wr=>∃ (k:Nat),k≤ts.length∧vi=ι (k:Int)∧(∀ (i:Nat) t,i<k→ts[i]?=some t→yz t.c=true)∧zb wr w.heap.size 48 (ξ x An cn Ac cc Au cu)∧zb wr (w.heap.size+1) 48 ζ∧Below w.heap.size w wr) (fun vi _=>ts.length - (intOf vi).toNat)
 case atStart=>exact HI.out
 case round=>
  obtain ⟨k,hk,rfl,hv,hX,hY,hB⟩:=hrel
  have HV:=ħ hv
  have HX:=ħ hX
  have HY:=ħ hY
  have HB:=ħ hB
  clear hv hX hY hB HI
  by_cases hlt:k<ts.length
  ·have hlt':(k:Int)<ts.length:=by omega
   have hix:=fun W=>VD hp c k hlt W
   obtain ⟨t,htk⟩:∃ t,t=ts[k]:=⟨_,rfl⟩
   have hr:wr.rangeAt (bk A) (qP A+k * 8) [ι t.c.call,ι t.c.inc,ι t.c.urg,.string t.c.code,.slice t.A t.c.nodes.length t.k,ι t.c.dist,ι t.c.since,.bool t.c.closed]:=by
    have:=jG (HR.out.below HB.out (fun k hk=>hk)) hlt
    rw[←htk] at this
    exact this
   have Ko:t∈ts:=by rw[htk];exact List.getElem_mem hlt
   have HG:=ħ (show ts[k]?=some t by rw[htk];exact List.getElem?_eq_getElem hlt)
   clear htk
   have bn:=ħ (HX.out.alloc (.cells (χ t.c t.A t.k) 34))
   have xC:=ħ (HY.out.alloc (.cells (χ t.c t.A t.k) 34))
   have eX:=ħ (zb.new wr 34 (χ t.c t.A t.k))
   have Jb:=ħ (HB.out.alloc HB.out.size (.cells (χ t.c t.A t.k) 34))
   have aN:=ħ (gT.out t Ko _ Jb.out)
   have x0:=eX.out.facts
   clear HX HB
   cases hq:yz t.c with
   | false=>
    have lH:=ħ (show ∃ y∈ts.map (·.c),yz y=false from ⟨t.c,List.mem_map_of_mem Ko,hq⟩)
    rw[hq] at aN
    clear hq HY
    go_wp2_with (first | (refine wpList_load_mid rfl 34 _ rfl (bk A) (qP A+k * 8) rfl [ι t.c.call,ι t.c.inc,ι t.c.urg,.string t.c.code,.slice t.A t.c.nodes.length t.k,ι t.c.dist,ι t.c.since,.bool t.c.closed] _ hr Tryz.underlying34 rfl Jw ?_) | (go_at_call 127;((with_reducible refine aN.out.mono ?_);rintro e w4 ⟨rfl,hb4⟩;have HY:=ħ (xC.out.below hb4 xC.out.lt);have HB:=ħ (Jb.out.trans (hb4.mono Jb.out.size));clear hb4)) | (refine z8 rfl (.tmp 4) (.tmp 30) 48 rfl (w.heap.size+1) 48 _ ζ _ 10 136 zJ rfl rfl rfl HY.out rfl (zH (by simp[Value.oneCell'])) ?_;intro w8 zW zI yL))
    refine bodyPost_ret (za (p:=4) (u:=5) (ty:=48) Tryz.results107 _ _ (w.heap.size+1) 48 ζ (0,0) _ rfl zW Tryz.underlying48 rfl qo) rfl ?_
    exact uK (.inr (.inr lH.out)) ⟨none,none,none,0,0,0,rfl,World.ownsRow_nil _ _ _ _,World.ownsRow_nil _ _ _ _,World.ownsRow_nil _ _ _ _,HB.out.trans (zI.below HB.out.size (fun k hk e=>by omega))⟩
   | true=>
    have vg:=ħ (show ∀ (i:Nat) t,i<k+1→ts[i]?=some t→yz t.c=true from fun i t' hi hg=>by
     rcases (by omega:i<k∨i=k) with e | rfl
     ·exact HV.out i t' e hg
     ·rw[HG.out] at hg;injection hg with hg;rw[←hg];exact hq)
    rw[hq] at aN
    clear hq
    go_wp2_with (first | (refine wpList_load_mid rfl 34 _ rfl (bk A) (qP A+k * 8) rfl [ι t.c.call,ι t.c.inc,ι t.c.urg,.string t.c.code,.slice t.A t.c.nodes.length t.k,ι t.c.dist,ι t.c.since,.bool t.c.closed] _ hr Tryz.underlying34 rfl Jw ?_) | (go_at_call 127;((with_reducible refine aN.out.mono ?_);rintro e w4 ⟨rfl,hb4⟩;have hb5:=ħ hb4;clear hb4)))
    exact ⟨⟨k+1,by omega,by go_num,vg.out,bn.out.below hb5.out bn.out.lt,xC.out.below hb5.out xC.out.lt,Jb.out.trans (hb5.out.mono Jb.out.size)⟩,by simp[intOf];omega⟩
  ·have hlt':¬ (k:Int)<ts.length:=by omega
   have hk':k=ts.length:=by omega
   subst hk'
   have d1:¬ (1000:Int)<ts.length:=by omega
   have sU:=ħ (bR _ A c ts wr (HR.out.below HB.out (fun k hk=>hk)) (by omega))
   clear hlt hlt' d1
   have u7:=ħ (show ∀ t∈ts,yz t.c=true from fun t ht=>by
    obtain ⟨i,hi,rfl⟩:=List.mem_iff_getElem.1 ht
    exact HV.out i _ hi (List.getElem?_eq_getElem hi))
   clear HV gT HR
   go_upto_region 12 with (go_at_call 145;((with_reducible refine sU.out.mono ?_);rintro e w4 ⟨A2,c2,rfl,ho2,hb2⟩;have zk:=ħ ho2;have Zo:=ħ (HX.out.below hb2 HX.out.lt);have vR:=ħ (HY.out.below hb2 HY.out.lt);have HB2:=ħ (HB.out.trans (hb2.mono HB.out.size));have HS2:=ħ hb2.size;have MR:=ħ (iB _ A2 _ c2 ts w4 ho2 rfl hpos (by omega));clear ho2 hb2))
   iterate 6 go_step
   (go_at_call 146;((with_reducible refine MR.out.mono ?_);rintro e w5 ⟨rfl,ss,hpm,hpw,ho3,hg3⟩;have aV:=ħ hpm;have CL:=ħ hpw;have zC:=ħ ho3;have tK:=ħ hg3;clear hpm hpw ho3 hg3))
   dsimp only
   iterate 4 go_step
   refine ZZ (c':=sub [true,true,true,true,true,true] (Tryz.f107.body.getD .skip)) (by kernel_rfl) ?_
   have hne:∀ k,(Value.slice A2 ts.length c2).ownBlock=some k→wr.heap.size≤k:=fun k hk=>(zk.out.lt k hk).1
   have qx:=ħ (Zo.out.grown tK.out (by intro e;have:=hne _ e.symm;have:=HX.out.lt;omega))
   have RF:=ħ (vR.out.grown tK.out (by intro e;have:=hne _ e.symm;have:=HY.out.lt;omega))
   have HB3:=ħ (HB2.out.grown tK.out HB2.out.size (fun k hk=>by have:=hne _ hk;have:=HB.out.size;omega))
   clear Zo vR HB2 zk tK sU MR HX HY HB hne HS2
   obtain ⟨hc2,hr3⟩:=S9 zC.out hpos
   have hp3:=hr3.plain (by omega)
   have hln:ss.length=ts.length:=aV.out.length_eq
   match ss,hln,aV,CL,hr3 with
   | [],hln,_,_,_=>exfalso;simp at hln;omega
   | t0 :: r,hln,aV,CL,hr3=>
   have hnr:ts.length=r.length+1:=by rw[←hln];rfl
   have YM:=ħ hnr
   have jB:=ħ (show Reads w5 (· < w5.heap.size) 8 A2 (t0 :: r).length ((t0 :: r).flatMap qC) by rw[hln];exact hr3)
   have Zh:=ħ (show ∀ t∈t0 :: r,yz t.c=true∧RI w (· < w.heap.size) t.A t.c.nodes∧t.c.code.size≤100000∧t.c.nodes.length≤100000 from fun t ht=>by
    have hm:=aV.out.mem_iff.1 ht
    exact ⟨u7.out t hm,Bz.out t hm,HL.out t hm⟩)
   have XO:=ħ (show ((t0 :: r).map (·.c)).Perm (ts.map (·.c)) from aV.out.map _)
   have VG:=ħ (show ((t0 :: r).map (·.c)).Pairwise UD by rw[List.pairwise_map];exact CL.out)
   clear hr3 u7 Bz HL zC hln hnr
   exact aT x An Ac Au cn cc cu t0 r (ts.map (·.c)) A2 c2 ts.length w w5 ln lc lu lt hc2 HT HN HC HU qx RF HB3 YM jB Zh mV XO VG _ _ _ _ _ _ _ _ _ _ _ _ _ _ _ _ _ _ _ _ _ _ _ _ _ _ _ _ _ _ _ _ _ _ _ _ _ _ _ _ _ _ _ _ _ _ _ _ _ _ _ _ _ _ _ _ _ _ _ _ _ _ _ _ _ _
end Go.Proofs.YtdhcjhfgibmhfaaGreatDoor
