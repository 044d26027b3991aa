import Derived.Test.YtdhcjhfgibmhfaaGreatDoorJRr6
import Derived.Test.YtdhcjhfgibmhfaaGreatDoorJG15
import Derived.Test.YtdhcjhfgibmhfaaGreatDoorJG11
import Derived.Test.YtdhcjhfgibmhfaaGreatDoorJG4
import Derived.Test.YtdhcjhfgibmhfaaGreatDoorJStBlk
import Derived.Deep.RegionHeld
import Derived.Deep.RegionHeldLaw
set_option linter.unusedVariables false
set_option linter.unusedSimpArgs false
set_option maxRecDepth 10000
set_option maxHeartbeats 8000000
namespace Go.Proofs.YtdhcjhfgibmhfaaGreatDoor
open Go.RowKit Go.Own Go.Quo Go.Inc
theorem DX {l:List Int}{lo hi:Int}(h:qf l lo hi=true):l.length≤(hi - lo+1).toNat:=by
 have h1:=j4.1 h
 have:=Ye (VF h) (m:=(List.range (hi - lo+1).toNat).map (fun n:Nat=>lo+(n:Int))) (fun x hx=>by
  have:=h1.2 x hx
  exact List.mem_map.2 ⟨(x - lo).toNat,List.mem_range.2 (by omega),by omega⟩)
 rw[List.length_map,List.length_range] at this
 exact this
theorem yO {x:Ic}(h:jC x=true):x.code.size≤100000∧x.calls.length≤100000∧x.units.length≤256:=by
 have h1:=ku h
 unfold jC at h
 simp only[Bool.and_eq_true,decide_eq_true_eq] at h
 have h2:=DX h.1.2
 have h3:=h.1.1.1.2
 have h4:=h1.2.2.2.2.1
 refine ⟨by omega,by omega,by omega⟩
theorem D6 {t:Cr}(h:yz t=true):t.code.size≤100000:=by
 have:=(DI h).2.2.1
 omega
theorem jA {w:World}{B:Nat→Prop}{A:Option Addr}{l:List Xa}(h:Reads w B 10 A l.length (l.flatMap Yz)){i:Nat}(hi:i<l.length){y:Xa}(hy:y=l[i]):w.cell? ⟨bk A,qP A+i * 10,none⟩=some (ι y.x.id)∧w.cell? ⟨bk A,qP A+i * 10+1,none⟩=some (ι y.x.urg)∧w.cell? ⟨bk A,qP A+i * 10+2,none⟩=some (.string y.x.code)∧w.cell? ⟨bk A,qP A+i * 10+3,none⟩=some (.slice y.An y.x.nodes.length y.cn)∧w.cell? ⟨bk A,qP A+i * 10+4,none⟩=some (ι y.x.dist)∧w.cell? ⟨bk A,qP A+i * 10+5,none⟩=some (ι y.x.since)∧w.cell? ⟨bk A,qP A+i * 10+6,none⟩=some (.slice y.Ac y.x.calls.length y.cc)∧w.cell? ⟨bk A,qP A+i * 10+7,none⟩=some (.slice y.Au y.x.units.length y.cu)∧w.cell? ⟨bk A,qP A+i * 10+8,none⟩=some (ι y.x.merged)∧w.cell? ⟨bk A,qP A+i * 10+9,none⟩=some (.bool y.x.closed):=by
 subst hy
 have h1:=XQ h hi
 have h0:=h1 0 _ rfl
 rw[Nat.add_zero] at h0
 exact ⟨h0,h1 1 _ rfl,h1 2 _ rfl,h1 3 _ rfl,h1 4 _ rfl,h1 5 _ rfl,h1 6 _ rfl,h1 7 _ rfl,h1 8 _ rfl,h1 9 _ rfl⟩
def pO (b:Bk)(id:Int)(lc:List Ca)(AC:Option Addr)(cC:Nat)(B:Nat→Prop)(W:World)(e:Ending)(w':World):Prop:=∃ (L1:List Xa) (A1:Option Addr) (c1:Nat),e=.returned (.agg #[.slice A1 L1.length c1,.slice AC lc.length cC])∧zX w' B ⟨L1,A1,c1,lc,AC,cC⟩∧L1.map (fun a=>a.x)=(qw b id).L∧Below W.heap.size W w'
theorem Uo (la:List Xa)(AL:Option Addr)(cL:Nat)(lc:List Ca)(AC:Option Addr)(cC:Nat)(id:Int)(n:Nat)(B:Nat→Prop)(w:World)(h:zX w B ⟨la,AL,cL,lc,AC,cC⟩)(hB:∀ k,w.heap.size≤k→B k)
 (hN:zg n ⟨la.map (fun a=>a.x),lc.map (fun a=>a.c)⟩ id) (hn:n≤1000) (hg:zw (la.map (fun a=>a.x)) id≠none):Calls Tryz.prog 91 #[.agg #[.slice AL la.length cL,.slice AC lc.length cC],ι id] w (pO ⟨la.map (fun a=>a.x),lc.map (fun a=>a.c)⟩ id lc AC cC B w):=by
 have hla:la.length≤1000:=by have:=hN.nL;simp only[List.length_map] at this;omega
 have hlc:lc.length≤1000:=by have:=hN.nC;simp only[List.length_map] at this;omega
 have HV:=ħ h
 have HN:=ħ hN
 have Kq:=ħ hB
 have fu:=ħ (h.old.more (B':=fun k=>k<w.heap.size∧B k) (fun k hk=>⟨hk.2,hk.1⟩))
 have hp:=h.rl.plain (by omega)
 obtain ⟨i,hi,y,hy,hyl,hid⟩:∃ i:Nat,GI (fun a:Xa=>a.x.id) la id=(i:Int)∧∃ y:Xa,(∃ h:i<la.length,y=la[i])∧y∈la∧zw (la.map (fun a=>a.x)) id=some y.x:=by
  rcases qH (fun a:Xa=>a.x.id) la id with ⟨i,hi,hlt,hq⟩ | ⟨hi,hq⟩
  ·exact ⟨i,hi,la[i],⟨hlt,rfl⟩,List.getElem_mem hlt,by
    show yw Ic.id (la.map (fun a=>a.x)) id=_
    rw[QH Ic.id (fun a:Xa=>a.x),hq];rfl⟩
  ·refine absurd ?_ hg
   show yw Ic.id (la.map (fun a=>a.x)) id=_
   rw[QH Ic.id (fun a:Xa=>a.x),hq];rfl
 obtain ⟨hil,hyi⟩:=hy
 have HE:=ħ (show qw ⟨la.map (fun a=>a.x),lc.map (fun a=>a.c)⟩ id=⟨zz (la.map (fun a=>a.x)) (qF y.x (qB (lc.map (fun a=>a.c)) id)).1,lc.map (fun a=>a.c)⟩ by unfold qw;dsimp only;rw[hid])
 have hyv:=hN.vL y.x (List.mem_map.2 ⟨y,hyl,rfl⟩)
 have sQ:=ħ (And.intro (yO hyv.1) hyv.2)
 have Ja:=ħ (fu.out.xl y hyl)
 have Jm:=ħ fun (W':World) (hb:Below w.heap.size w W')=>jA ((fu.out.below hb).rl) hil hyi
 have ZX:=ħ fun (W:World) (hb:Below w.heap.size w W)=>(show Calls Tryz.prog 20 #[.agg #[.slice AL la.length cL,.slice AC lc.length cC],ι id] W (fun e w'=>e=.returned (ι (i:Int))∧Below W.heap.size W w') from by
  have:=Z4 ⟨la,AL,cL,lc,AC,cC⟩ (fun k=>k<w.heap.size∧B k) id W (fu.out.below hb) (by show la.length≤100000;omega)
  rw[hi] at this
  exact this)
 have Ei:=ħ fun (W:World) (hb:Below w.heap.size w W)=>(show Calls Tryz.prog 94 #[.agg #[.slice AL la.length cL,.slice AC lc.length cC],ι id] W (ui ⟨la,AL,cL,lc,AC,cC⟩ id (fun _=>True) W) from lN ⟨la,AL,cL,lc,AC,cC⟩ (fun _=>True) id W ((fu.out.below hb).more (fun _ _=>trivial)) (fun _ _=>trivial) (by show lc.length≤10000;omega))
 obtain ⟨os,hos⟩:∃ os:List Ca,os=Xw lc id:=⟨_,rfl⟩
 have iO:=ħ (show os.map (fun a=>a.c)=qB (lc.map (fun a=>a.c)) id by rw[hos];exact UG lc id)
 have MF:=ħ (show os.length≤1000∧∀ t∈os,t.c.code.size≤100000∧t.c.nodes.length≤100000 by
  rw[hos]
  refine ⟨Nat.le_trans (XK lc id) hlc,fun t ht=>?_⟩
  have hv:=hN.vC t.c (List.mem_map.2 ⟨t,(List.mem_filter.1 ht).1,rfl⟩)
  exact ⟨D6 hv.1,by omega⟩)
 unfold ui at Ei
 simp only[←hos] at Ei
 have Bz:=ħ (show ∀ t∈os,RI w (fun k=>k<w.heap.size∧B k) t.A t.c.nodes from fun t ht=>fu.out.xc t (by rw[hos] at ht;exact (List.mem_filter.1 ht).1))
 have Yf:=ħ fun (A:Option Addr) (c:Nat) (W:World) (hb:Below w.heap.size w W) (hr:Reads W (fun _=>True) 8 A os.length (os.flatMap qC))=>(show Calls Tryz.prog 30 #[.agg (ξ y.x y.An y.cn y.Ac y.cc y.Au y.cu),.slice A os.length c] W (vN (fun b=>b<w.heap.size∧B b) (qF y.x (os.map (fun a=>a.c))).1 (qF y.x (os.map (fun a=>a.c))).2 W) from
  lM (fun b=>b<w.heap.size∧B b) y.x y.An y.Ac y.Au y.cn y.cc y.cu os A c W (((Ja.out.below hb).n.old (by omega)).more (fun k hk=>⟨hk.2,hk.1⟩)) (((Ja.out.below hb).c.old (by omega)).more (fun k hk=>⟨hk.2,hk.1⟩)) (((Ja.out.below hb).u.old (by omega)).more (fun k hk=>⟨hk.2,hk.1⟩)) ((hr.old (by omega)).more (fun k hk=>hk.2)) (fun t h=>((zl (Bz.out t h) hb).old (by omega)).more (fun k hk=>⟨hk.2,hk.1⟩)) sQ.out.1.1 (by have:=sQ.out.2;omega) sQ.out.1.2.1 (by have:=sQ.out.1.2.2;omega) MF.out.1 MF.out.2)
 rw[iO.out] at Yf
 obtain ⟨R,hR⟩:∃ R,R=qF y.x (qB (lc.map (fun a=>a.c)) id):=⟨_,rfl⟩
 rw[←hR] at Yf HE
 obtain ⟨x,er⟩:=R
 simp only at Yf HE
 clear hR hid hyv hg hyl hyi hos hi h hB hN
 have HX0:=ħ ((zb.new w 29 #[.slice AL la.length cL,.slice AC lc.length cC]).alloc (.cells #[.slice none 0 0,.slice none 0 0] 29))
 have HZ0:=ħ (show zb ((w.alloc (.cells #[.slice AL la.length cL,.slice AC lc.length cC] 29)).alloc (.cells #[.slice none 0 0,.slice none 0 0] 29)) (w.heap.size+1) 29 #[.slice none 0 0,.slice none 0 0] by
  have:=zb.new (w.alloc (.cells #[.slice AL la.length cL,.slice AC lc.length cC] 29)) 29 #[.slice none 0 0,.slice none 0 0]
  simpa using this)
 have HB0:=ħ (((Below.refl w.heap.size w).alloc (Nat.le_refl _) (.cells #[.slice AL la.length cL,.slice AC lc.length cC] 29)).alloc (by simp) (.cells #[.slice none 0 0,.slice none 0 0] 29))
 have hz0:w.heap.size+2≤((w.alloc (.cells #[.slice AL la.length cL,.slice AC lc.length cC] 29)).alloc (.cells #[.slice none 0 0,.slice none 0 0] 29)).heap.size:=by simp
 go_enter Tryz.func91,Tryz.ntmps91
 go_upto_region 1 with fail
 generalize (w.alloc _).alloc _=W8 at *
 have hix:=fun W=>JZ hp cL i hil W
 have jh:=ħ fun (W':World) (hf:Fr (fun _=>False) W8 W')=>(show (W'.cell? ⟨w.heap.size,0,none⟩=some (.slice AL la.length cL)∧W'.cell? ⟨w.heap.size,1,none⟩=some (.slice AC lc.length cC))∧(W'.cell? ⟨bk AL,qP AL+i * 10,none⟩=some (ι y.x.id)∧W'.cell? ⟨bk AL,qP AL+i * 10+1,none⟩=some (ι y.x.urg)∧W'.cell? ⟨bk AL,qP AL+i * 10+2,none⟩=some (.string y.x.code)∧W'.cell? ⟨bk AL,qP AL+i * 10+3,none⟩=some (.slice y.An y.x.nodes.length y.cn)∧W'.cell? ⟨bk AL,qP AL+i * 10+4,none⟩=some (ι y.x.dist)∧W'.cell? ⟨bk AL,qP AL+i * 10+5,none⟩=some (ι y.x.since)∧W'.cell? ⟨bk AL,qP AL+i * 10+6,none⟩=some (.slice y.Ac y.x.calls.length y.cc)∧W'.cell? ⟨bk AL,qP AL+i * 10+7,none⟩=some (.slice y.Au y.x.units.length y.cu)∧W'.cell? ⟨bk AL,qP AL+i * 10+8,none⟩=some (ι y.x.merged)∧W'.cell? ⟨bk AL,qP AL+i * 10+9,none⟩=some (.bool y.x.closed)) from ⟨⟨(HX0.out.fr hf (fun e=>e)).cell 0,(HX0.out.fr hf (fun e=>e)).cell 1⟩,Jm.out W' (HB0.out.trans (hf.below HB0.out.size (fun _ _ e=>e)))⟩)
 have HW:=ħ fun (W':World) (hf:Fr (fun _=>False) W8 W')=>HB0.out.trans (hf.below (B:=w.heap.size) HB0.out.size (fun _ _ e=>e))
 have hw8:=HB0.out.size
 go_cut [5] (fun v wx=>∃ p An Ac Au cn cc cu,v=.pointer (some ⟨p,0,none⟩)∧W8.heap.size≤p∧zb wx p 48 (ξ x An cn Ac cc Au cu)∧XR wx (fun j=>B j∧j≠p∧j≠w.heap.size+1) ⟨x,An,Ac,Au,cn,cc,cu⟩∧Fr (fun _=>False) W8 wx)
 case first=>
  refine qW (S:=fun w'=>Fr (fun _=>False) W8 w') #[{ dst:=some 8,op:=Op.fieldAddr 29 (Operand.tmp 2) 0,type:=0,pos:= "ref.go:93",after:=#[],guard:=none },{ dst:=some 9,op:=Op.load 26 (Operand.tmp 8),type:=26,pos:= "ref.go:93",after:=#[{ on:=0,ground:=Ground.data }],guard:=none },{ dst:=some 10,op:=Op.load 29 (Operand.tmp 2),type:=29,pos:= "ref.go:93",after:=#[],guard:=none },{ dst:=some 11,op:=Op.move (Operand.tmp 1),type:=2,pos:= "ref.go:93",after:=#[],guard:=none },{ dst:=some 12,op:=Op.call { callee:=Callee.value (Operand.func 20),args:=#[Operand.tmp 10,Operand.tmp 11],argTypes:=#[29,2] },type:=3,pos:= "ref.go:93",after:=#[{ on:=2,ground:=Ground.data },{ on:=3,ground:=Ground.data }],guard:=none },{ dst:=some 13,op:=Op.indexAddr 26 (Operand.tmp 9) (Operand.tmp 12),type:=0,pos:= "ref.go:93",after:=#[{ on:=1,ground:=Ground.data },{ on:=4,ground:=Ground.data }],guard:=none },{ dst:=some 14,op:=Op.load 48 (Operand.tmp 13),type:=48,pos:= "ref.go:93",after:=#[{ on:=5,ground:=Ground.data }],guard:=none },{ dst:=some 15,op:=Op.load 29 (Operand.tmp 2),type:=29,pos:= "ref.go:93",after:=#[],guard:=none },{ dst:=some 16,op:=Op.move (Operand.tmp 1),type:=2,pos:= "ref.go:93",after:=#[],guard:=none },{ dst:=some 17,op:=Op.call { callee:=Callee.value (Operand.func 94),args:=#[Operand.tmp 15,Operand.tmp 16],argTypes:=#[29,2] },type:=27,pos:= "ref.go:93",after:=#[{ on:=7,ground:=Ground.data },{ on:=8,ground:=Ground.data },{ on:=4,ground:=Ground.chain }],guard:=none },{ dst:=some 18,op:=Op.call { callee:=Callee.value (Operand.func 30),args:=#[Operand.tmp 14,Operand.tmp 17],argTypes:=#[48,27] },type:=62,pos:= "ref.go:93",after:=#[{ on:=6,ground:=Ground.data },{ on:=9,ground:=Ground.data },{ on:=9,ground:=Ground.chain }],guard:=none },{ dst:=some 7,op:=Op.move (Operand.tmp 18),type:=62,pos:= "ref.go:93",after:=#[{ on:=10,ground:=Ground.data }],guard:=none },{ dst:=some 19,op:=Op.extract (Operand.tmp 7) 0,type:=48,pos:= "ref.go:93",after:=#[{ on:=11,ground:=Ground.data }],guard:=none },{ dst:=some 20,op:=Op.extract (Operand.tmp 7) 1,type:=42,pos:= "ref.go:93",after:=#[{ on:=11,ground:=Ground.data },{ on:=15,ground:=Ground.gcOnly Go.Departure.lateStores }],guard:=none },{ dst:=some 5,op:=Op.alloc 48,type:=0,pos:= "ref.go:93",after:=#[],guard:=none },{ dst:=none,op:=Op.store 48 (Operand.tmp 5) (Operand.tmp 19),type:=0,pos:= "ref.go:93",after:=#[{ on:=14,ground:=Ground.data },{ on:=12,ground:=Ground.data },{ on:=10,ground:=Ground.chain },{ on:=0,ground:=Ground.phase },{ on:=1,ground:=Ground.phase },{ on:=2,ground:=Ground.phase },{ on:=3,ground:=Ground.phase },{ on:=4,ground:=Ground.phase },{ on:=5,ground:=Ground.phase },{ on:=6,ground:=Ground.phase },{ on:=7,ground:=Ground.phase },{ on:=8,ground:=Ground.phase },{ on:=9,ground:=Ground.phase },{ on:=10,ground:=Ground.phase },{ on:=11,ground:=Ground.phase },{ on:=12,ground:=Ground.phase },{ on:=13,ground:=Ground.textOnly Go.Departure.lateStores },{ on:=14,ground:=Ground.phase }],guard:=none }] { dst:=some 6,op:=Op.assign (Operand.tmp 20),type:=42,pos:= "ref.go:93",after:=#[{ on:=13,ground:=Ground.data },{ on:=15,ground:=Ground.chain },{ on:=0,ground:=Ground.phase },{ on:=1,ground:=Ground.phase },{ on:=2,ground:=Ground.phase },{ on:=3,ground:=Ground.phase },{ on:=4,ground:=Ground.phase },{ on:=5,ground:=Ground.phase },{ on:=6,ground:=Ground.phase },{ on:=7,ground:=Ground.phase },{ on:=8,ground:=Ground.phase },{ on:=9,ground:=Ground.phase },{ on:=10,ground:=Ground.phase },{ on:=11,ground:=Ground.phase },{ on:=12,ground:=Ground.phase },{ on:=13,ground:=Ground.phase },{ on:=14,ground:=Ground.phase },{ on:=15,ground:=Ground.phase }],guard:=none } (by rfl) (by kernel_rfl) (by kernel_rfl) ?_ (fun hHeld=>?_)
  ·exact (Fr.refl _ _).drew
  have HR:=ħ hHeld
  generalize W8.drew=wx at *
  refine wpAnyH_take (i:=0) (v:=?v0) rfl (by kernel_rfl) (by kernel_rfl) (by kernel_rfl) (fun _ _ _ h=>h) (Or.inl ⟨by rfl,?hy0⟩) hHeld ?rest0
  case hy0=>
   intro w0 hSw
   obtain ⟨⟨e0,e1⟩,e2,e3,e4,e5,e6,e7,e8,e9,e10,e11⟩:=jh.out w0 hSw
   go_simp
   try with_reducible rfl
  try simp only[Act.put,σa,σb,σc]
  refine wpAnyH_take (i:=1) (v:=?v1) rfl (by kernel_rfl) (by kernel_rfl) (by kernel_rfl) (fun _ _ _ h=>h) (Or.inl ⟨by rfl,?hy1⟩) hHeld ?rest1
  case hy1=>
   intro w0 hSw
   obtain ⟨⟨e0,e1⟩,e2,e3,e4,e5,e6,e7,e8,e9,e10,e11⟩:=jh.out w0 hSw
   go_simp
   try with_reducible rfl
  try simp only[Act.put,σa,σb,σc]
  refine wpAnyH_take (i:=2) (v:=?v2) rfl (by kernel_rfl) (by kernel_rfl) (by kernel_rfl) (fun _ _ _ h=>h) (Or.inl ⟨by rfl,?hy2⟩) hHeld ?rest2
  case hy2=>
   intro w0 hSw
   obtain ⟨⟨e0,e1⟩,e2,e3,e4,e5,e6,e7,e8,e9,e10,e11⟩:=jh.out w0 hSw
   go_simp
   try with_reducible rfl
  try simp only[Act.put,σa,σb,σc]
  refine wpAnyH_take (i:=3) (v:=?v3) rfl (by kernel_rfl) (by kernel_rfl) (by kernel_rfl) (fun _ _ _ h=>h) (Or.inl ⟨by rfl,?hy3⟩) hHeld ?rest3
  case hy3=>
   intro w0 hSw
   obtain ⟨⟨e0,e1⟩,e2,e3,e4,e5,e6,e7,e8,e9,e10,e11⟩:=jh.out w0 hSw
   go_simp
   try with_reducible rfl
  try simp only[Act.put,σa,σb,σc]
  refine wpAnyH_take (i:=7) (v:=?v4) rfl (by kernel_rfl) (by kernel_rfl) (by kernel_rfl) (fun _ _ _ h=>h) (Or.inl ⟨by rfl,?hy4⟩) hHeld ?rest4
  case hy4=>
   intro w0 hSw
   obtain ⟨⟨e0,e1⟩,e2,e3,e4,e5,e6,e7,e8,e9,e10,e11⟩:=jh.out w0 hSw
   go_simp
   try with_reducible rfl
  try simp only[Act.put,σa,σb,σc]
  refine wpAnyH_take (i:=8) (v:=?v5) rfl (by kernel_rfl) (by kernel_rfl) (by kernel_rfl) (fun _ _ _ h=>h) (Or.inl ⟨by rfl,?hy5⟩) hHeld ?rest5
  case hy5=>
   intro w0 hSw
   obtain ⟨⟨e0,e1⟩,e2,e3,e4,e5,e6,e7,e8,e9,e10,e11⟩:=jh.out w0 hSw
   go_simp
   try with_reducible rfl
  try simp only[Act.put,σa,σb,σc]
  refine wpAnyH_ready (rs:=[4,14]) (by kernel_rfl) (by simp) ?_
  refine AllReadyH.cons rfl (fun K hK=>?_) ?_
  ·skip
   go_simp
   go_wp2_with (go_at_call 20;((with_reducible refine (ZX.out _ (HW.out _ HR.out)).mono ?_);rintro e wz ⟨rfl,hbz⟩))
   replace HR:=ħ (HR.out.trans (Fr.of_below hbz (S:=fun _=>False)))
   try replace HZ:=ħ (HZ.out.below hbz HZ.out.lt)
   try replace zk:=ħ (And.intro (yD zk.out.1 hbz) (fun t h=>zl (zk.out.2 t h) hbz))
   clear hbz
   obtain ⟨wx,hwx⟩:∃ wx,wx=wz:=⟨_,rfl⟩
   rw[←hwx] at HR⊢
   try rw[←hwx] at HZ
   try rw[←hwx] at zk
   try rw[←hwx] at qx
   try rw[←hwx] at jq
   clear hwx
   refine hK.out _ _ ?_ (fun hHeld=>?_)
   ·exact HR.out
   clear hK K
   try simp only[Act.put,σa,σb,σc]
   refine wpAnyH_take (i:=5) (v:=?v6) rfl (by kernel_rfl) (by kernel_rfl) (by kernel_rfl) (fun _ _ _ h=>h) (Or.inl ⟨by rfl,?hy6⟩) hHeld ?rest6
   case hy6=>
    intro w0 hSw
    obtain ⟨⟨e0,e1⟩,e2,e3,e4,e5,e6,e7,e8,e9,e10,e11⟩:=jh.out w0 hSw
    go_simp
    try with_reducible rfl
   try simp only[Act.put,σa,σb,σc]
   refine wpAnyH_take (i:=6) (v:=?v7) rfl (by kernel_rfl) (by kernel_rfl) (by kernel_rfl) (fun _ _ _ h=>h) (Or.inl ⟨by rfl,?AY⟩) hHeld ?rest7
   case AY=>
    intro w0 hSw
    obtain ⟨⟨e0,e1⟩,e2,e3,e4,e5,e6,e7,e8,e9,e10,e11⟩:=jh.out w0 hSw
    go_simp
    try with_reducible rfl
   try simp only[Act.put,σa,σb,σc]
   refine wpAnyH_ready (rs:=[9,14]) (by kernel_rfl) (by simp) ?_
   refine AllReadyH.cons rfl (fun K hK=>?_) ?_
   ·skip
    go_simp
    go_wp2_with (go_at_call 94;((with_reducible refine (Ei.out _ (HW.out _ HR.out)).mono ?_);rintro e wz ⟨A2,c2,rfl,hr2,ht2,hbz⟩))
    replace HR:=ħ (HR.out.trans (Fr.of_below hbz (S:=fun _=>False)))
    try replace HZ:=ħ (HZ.out.below hbz HZ.out.lt)
    try replace zk:=ħ (And.intro (yD zk.out.1 hbz) (fun t h=>zl (zk.out.2 t h) hbz))
    have zk:=ħ (And.intro hr2 ht2)
    clear hbz hr2 ht2
    obtain ⟨wx,hwx⟩:∃ wx,wx=wz:=⟨_,rfl⟩
    rw[←hwx] at HR⊢
    try rw[←hwx] at HZ
    try rw[←hwx] at zk
    try rw[←hwx] at qx
    try rw[←hwx] at jq
    clear hwx
    refine hK.out _ _ ?_ (fun hHeld=>?_)
    ·exact HR.out
    clear hK K
    try simp only[Act.put,σa,σb,σc]
    refine wpAnyH_ready (rs:=[10,14]) (by kernel_rfl) (by simp) ?_
    refine AllReadyH.cons rfl (fun K hK=>?_) ?_
    ·skip
     go_simp
     go_wp2_with (go_at_call 30;((with_reducible refine (Yf.out A2 c2 _ (HW.out _ HR.out) zk.out.1).mono ?_);rintro e wz ⟨An,Ac,Au,cn,cc,cu,rfl,xW,hc3,hu3,hbz⟩))
     have qx:=ħ (show XR wz (fun j=>j<wz.heap.size∧((j<w.heap.size∧B j)∨wx.heap.size≤j)) ⟨x,An,Ac,Au,cn,cc,cu⟩ from ⟨xW,hc3,hu3⟩)
     have V4:=ħ (qx.out.more (B':=fun j=>j<wz.heap.size∧(j≠wz.heap.size→B j∧j≠wz.heap.size∧j≠w.heap.size+1)) (fun j hj=>⟨hj.1,fun hne=>⟨by have h4:=HR.out.size;rcases hj.2 with h3 | h3;exact h3.2;exact Kq.out j (by omega),hne,by have h3:=hj.2;have h4:=HR.out.size;omega⟩⟩))
     first | (have jq:=ħ (qx.out.more (B':=fun j=>B j∧j≠gz∧j≠w.heap.size+1) (fun j hj=>by have h1:=HG.out;have h2:=HZ.out.lt;have h4:=HR.out.size;exact ⟨by rcases hj.2 with h3 | h3;exact h3.2;exact Kq.out j (by omega),by have h3:=hj.2;omega,by have h3:=hj.2;omega⟩))) | skip
     clear qx
     have qx:=V4
     clear V4
     replace HR:=ħ (HR.out.trans (Fr.of_below hbz (S:=fun _=>False)))
     try replace HZ:=ħ (HZ.out.below hbz HZ.out.lt)
     try replace zk:=ħ (And.intro (yD zk.out.1 hbz) (fun t h=>zl (zk.out.2 t h) hbz))
     clear hbz xW hc3 hu3
     obtain ⟨wx,hwx⟩:∃ wx,wx=wz:=⟨_,rfl⟩
     rw[←hwx] at HR⊢
     try rw[←hwx] at HZ
     try rw[←hwx] at zk
     try rw[←hwx] at qx
     try rw[←hwx] at jq
     clear hwx
     refine hK.out _ _ ?_ (fun hHeld=>?_)
     ·exact HR.out
     clear hK K
     try simp only[Act.put,σa,σb,σc]
     refine wpAnyH_take (i:=11) (v:=?v8) rfl (by kernel_rfl) (by kernel_rfl) (by kernel_rfl) (fun _ _ _ h=>h) (Or.inl ⟨by rfl,?BQ⟩) hHeld ?rest8
     case BQ=>
      intro w0 hSw
      obtain ⟨⟨e0,e1⟩,e2,e3,e4,e5,e6,e7,e8,e9,e10,e11⟩:=jh.out w0 hSw
      go_simp
      try with_reducible rfl
     try simp only[Act.put,σa,σb,σc]
     refine wpAnyH_take (i:=12) (v:=?v9) rfl (by kernel_rfl) (by kernel_rfl) (by kernel_rfl) (fun _ _ _ h=>h) (Or.inl ⟨by rfl,?hy9⟩) hHeld ?rest9
     case hy9=>
      intro w0 hSw
      obtain ⟨⟨e0,e1⟩,e2,e3,e4,e5,e6,e7,e8,e9,e10,e11⟩:=jh.out w0 hSw
      go_simp
      try with_reducible rfl
     try simp only[Act.put,σa,σb,σc]
     refine wpAnyH_take (i:=13) (v:=?v10) rfl (by kernel_rfl) (by kernel_rfl) (by kernel_rfl) (fun _ _ _ h=>h) (Or.inl ⟨by rfl,?hy10⟩) hHeld ?rest10
     case hy10=>
      intro w0 hSw
      obtain ⟨⟨e0,e1⟩,e2,e3,e4,e5,e6,e7,e8,e9,e10,e11⟩:=jh.out w0 hSw
      go_simp
      try with_reducible rfl
     try simp only[Act.put,σa,σb,σc]
     refine wpAnyH_ready (rs:=[14]) (by kernel_rfl) (by simp) ?_
     refine AllReadyH.cons rfl (fun K hK=>?_) ?_
     ·skip
      go_simp
      have hbn:=zb.new wx 48 ζ
      have hge:=HR.out.size
      have hrn:=HR.out.alloc (.cells ζ 48)
      try replace zk:=ħ (And.intro (zk.out.1.alloc (.cells ζ 48)) (fun t h=>(zk.out.2 t h).alloc (.cells ζ 48)))
      try have jq:=ħ ((qx.out.more (B':=fun j=>B j∧j≠wx.heap.size∧j≠w.heap.size+1) (fun j hj=>hj.2 (by have:=hj.1;omega))).below ((Below.refl _ _).alloc (Nat.le_refl _) (.cells ζ 48)))
      generalize wx.alloc _=wz at *
      generalize wx.heap.size=gz at *
      have HZ:=ħ hbn
      have HG:=ħ hge
      replace HR:=ħ hrn
      clear hbn hge hrn
      obtain ⟨wx,hwx⟩:∃ wx,wx=wz:=⟨_,rfl⟩
      rw[←hwx] at HR⊢
      try rw[←hwx] at HZ
      try rw[←hwx] at zk
      try rw[←hwx] at qx
      try rw[←hwx] at jq
      clear hwx
      refine hK.out _ _ ?_ (fun hHeld=>?_)
      ·exact HR.out
      clear hK K
      try simp only[Act.put,σa,σb,σc]
      refine wpAnyH_ready (rs:=[15]) (by kernel_rfl) (by simp) ?_
      refine AllReadyH.cons rfl (fun K hK=>?_) ?_
      ·skip
       refine zf _ (by rfl) (.tmp 5) (.tmp 19) 48 (by rfl) _ 48 _ (ξ x An cn Ac cc Au cu) _ 10 136 zJ (by rfl) (by rfl) (by rfl) HZ.out (by rfl) (zH (by simp[Value.oneCell'])) ?_
       intro wz hbz hfz hsz
       have jv:=ħ (jq.out.fr hfz (fun j hj e=>hj.2.1 e))
       try clear qx
       replace HR:=ħ (show Fr (fun _=>False) W8 wz from ⟨hfz.os.trans HR.out.os,hfz.tape.trans HR.out.tape,hfz.output.trans HR.out.output,Nat.le_trans HR.out.size hfz.size,fun k hk _=>(hfz.block k (Nat.lt_of_lt_of_le hk HR.out.size) (by have:=HG.out;omega)).trans (HR.out.block k hk (fun e=>e))⟩)
       replace HZ:=ħ hbz
       clear hbz hfz hsz
       obtain ⟨wx,hwx⟩:∃ wx,wx=wz:=⟨_,rfl⟩
       rw[←hwx] at HR⊢
       try rw[←hwx] at HZ
       try rw[←hwx] at zk
       rw[←hwx] at jv
       try rw[←hwx] at jq
       clear hwx
       refine hK.out _ _ ?_ (fun hHeld=>?_)
       ·exact HR.out
       clear hK K
       try simp only[Act.put,σa,σb,σc]
       refine wpAnyH_done (by kernel_rfl) ?_ _
       refine qb _ rfl (fun K hK=>?_)
       go_simp
       refine hK _ _ ?_
       go_wp2_with fail
       go_meet
       case rel=>exact ⟨_,An,Ac,Au,cn,cc,cu,rfl,HG.out,HZ.out,jv.out,HR.out⟩
      exact AllReadyH.nil
     exact AllReadyH.nil
    refine AllReadyH.cons rfl (fun K hK=>?_) ?_
    ·skip
     go_simp
     have hbn:=zb.new wx 48 ζ
     have hge:=HR.out.size
     have hrn:=HR.out.alloc (.cells ζ 48)
     try replace zk:=ħ (And.intro (zk.out.1.alloc (.cells ζ 48)) (fun t h=>(zk.out.2 t h).alloc (.cells ζ 48)))
     try have jq:=ħ ((qx.out.more (B':=fun j=>B j∧j≠wx.heap.size∧j≠w.heap.size+1) (fun j hj=>hj.2 (by have:=hj.1;omega))).below ((Below.refl _ _).alloc (Nat.le_refl _) (.cells ζ 48)))
     generalize wx.alloc _=wz at *
     generalize wx.heap.size=gz at *
     have HZ:=ħ hbn
     have HG:=ħ hge
     replace HR:=ħ hrn
     clear hbn hge hrn
     obtain ⟨wx,hwx⟩:∃ wx,wx=wz:=⟨_,rfl⟩
     rw[←hwx] at HR⊢
     try rw[←hwx] at HZ
     try rw[←hwx] at zk
     try rw[←hwx] at qx
     try rw[←hwx] at jq
     clear hwx
     refine hK.out _ _ ?_ (fun hHeld=>?_)
     ·exact HR.out
     clear hK K
     try simp only[Act.put,σa,σb,σc]
     refine wpAnyH_ready (rs:=[10]) (by kernel_rfl) (by simp) ?_
     refine AllReadyH.cons rfl (fun K hK=>?_) ?_
     ·skip
      go_simp
      go_wp2_with (go_at_call 30;((with_reducible refine (Yf.out A2 c2 _ (HW.out _ HR.out) zk.out.1).mono ?_);rintro e wz ⟨An,Ac,Au,cn,cc,cu,rfl,xW,hc3,hu3,hbz⟩))
      have qx:=ħ (show XR wz (fun j=>j<wz.heap.size∧((j<w.heap.size∧B j)∨wx.heap.size≤j)) ⟨x,An,Ac,Au,cn,cc,cu⟩ from ⟨xW,hc3,hu3⟩)
      have V4:=ħ (qx.out.more (B':=fun j=>j<wz.heap.size∧(j≠wz.heap.size→B j∧j≠wz.heap.size∧j≠w.heap.size+1)) (fun j hj=>⟨hj.1,fun hne=>⟨by have h4:=HR.out.size;rcases hj.2 with h3 | h3;exact h3.2;exact Kq.out j (by omega),hne,by have h3:=hj.2;have h4:=HR.out.size;omega⟩⟩))
      first | (have jq:=ħ (qx.out.more (B':=fun j=>B j∧j≠gz∧j≠w.heap.size+1) (fun j hj=>by have h1:=HG.out;have h2:=HZ.out.lt;have h4:=HR.out.size;exact ⟨by rcases hj.2 with h3 | h3;exact h3.2;exact Kq.out j (by omega),by have h3:=hj.2;omega,by have h3:=hj.2;omega⟩))) | skip
      clear qx
      have qx:=V4
      clear V4
      replace HR:=ħ (HR.out.trans (Fr.of_below hbz (S:=fun _=>False)))
      try replace HZ:=ħ (HZ.out.below hbz HZ.out.lt)
      try replace zk:=ħ (And.intro (yD zk.out.1 hbz) (fun t h=>zl (zk.out.2 t h) hbz))
      clear hbz xW hc3 hu3
      obtain ⟨wx,hwx⟩:∃ wx,wx=wz:=⟨_,rfl⟩
      rw[←hwx] at HR⊢
      try rw[←hwx] at HZ
      try rw[←hwx] at zk
      try rw[←hwx] at qx
      try rw[←hwx] at jq
      clear hwx
      refine hK.out _ _ ?_ (fun hHeld=>?_)
      ·exact HR.out
      clear hK K
      try simp only[Act.put,σa,σb,σc]
      refine wpAnyH_take (i:=11) (v:=?v11) rfl (by kernel_rfl) (by kernel_rfl) (by kernel_rfl) (fun _ _ _ h=>h) (Or.inl ⟨by rfl,?hy11⟩) hHeld ?rest11
      case hy11=>
       intro w0 hSw
       obtain ⟨⟨e0,e1⟩,e2,e3,e4,e5,e6,e7,e8,e9,e10,e11⟩:=jh.out w0 hSw
       go_simp
       try with_reducible rfl
      try simp only[Act.put,σa,σb,σc]
      refine wpAnyH_take (i:=12) (v:=?v12) rfl (by kernel_rfl) (by kernel_rfl) (by kernel_rfl) (fun _ _ _ h=>h) (Or.inl ⟨by rfl,?hy12⟩) hHeld ?rest12
      case hy12=>
       intro w0 hSw
       obtain ⟨⟨e0,e1⟩,e2,e3,e4,e5,e6,e7,e8,e9,e10,e11⟩:=jh.out w0 hSw
       go_simp
       try with_reducible rfl
      try simp only[Act.put,σa,σb,σc]
      refine wpAnyH_take (i:=13) (v:=?v13) rfl (by kernel_rfl) (by kernel_rfl) (by kernel_rfl) (fun _ _ _ h=>h) (Or.inl ⟨by rfl,?hy13⟩) hHeld ?rest13
      case hy13=>
       intro w0 hSw
       obtain ⟨⟨e0,e1⟩,e2,e3,e4,e5,e6,e7,e8,e9,e10,e11⟩:=jh.out w0 hSw
       go_simp
       try with_reducible rfl
      try simp only[Act.put,σa,σb,σc]
      refine wpAnyH_ready (rs:=[15]) (by kernel_rfl) (by simp) ?_
      refine AllReadyH.cons rfl (fun K hK=>?_) ?_
      ·skip
       refine zf _ (by rfl) (.tmp 5) (.tmp 19) 48 (by rfl) _ 48 _ (ξ x An cn Ac cc Au cu) _ 10 136 zJ (by rfl) (by rfl) (by rfl) HZ.out (by rfl) (zH (by simp[Value.oneCell'])) ?_
       intro wz hbz hfz hsz
       have jv:=ħ (jq.out.fr hfz (fun j hj e=>hj.2.1 e))
       try clear qx
       replace HR:=ħ (show Fr (fun _=>False) W8 wz from ⟨hfz.os.trans HR.out.os,hfz.tape.trans HR.out.tape,hfz.output.trans HR.out.output,Nat.le_trans HR.out.size hfz.size,fun k hk _=>(hfz.block k (Nat.lt_of_lt_of_le hk HR.out.size) (by have:=HG.out;omega)).trans (HR.out.block k hk (fun e=>e))⟩)
       replace HZ:=ħ hbz
       clear hbz hfz hsz
       obtain ⟨wx,hwx⟩:∃ wx,wx=wz:=⟨_,rfl⟩
       rw[←hwx] at HR⊢
       try rw[←hwx] at HZ
       try rw[←hwx] at zk
       rw[←hwx] at jv
       try rw[←hwx] at jq
       clear hwx
       refine hK.out _ _ ?_ (fun hHeld=>?_)
       ·exact HR.out
       clear hK K
       try simp only[Act.put,σa,σb,σc]
       refine wpAnyH_done (by kernel_rfl) ?_ _
       refine qb _ rfl (fun K hK=>?_)
       go_simp
       refine hK _ _ ?_
       go_wp2_with fail
       go_meet
       case rel=>exact ⟨_,An,Ac,Au,cn,cc,cu,rfl,HG.out,HZ.out,jv.out,HR.out⟩
      exact AllReadyH.nil
     exact AllReadyH.nil
    exact AllReadyH.nil
   refine AllReadyH.cons rfl (fun K hK=>?_) ?_
   ·skip
    go_simp
    have hbn:=zb.new wx 48 ζ
    have hge:=HR.out.size
    have hrn:=HR.out.alloc (.cells ζ 48)
    try replace zk:=ħ (And.intro (zk.out.1.alloc (.cells ζ 48)) (fun t h=>(zk.out.2 t h).alloc (.cells ζ 48)))
    try have jq:=ħ ((qx.out.more (B':=fun j=>B j∧j≠wx.heap.size∧j≠w.heap.size+1) (fun j hj=>hj.2 (by have:=hj.1;omega))).below ((Below.refl _ _).alloc (Nat.le_refl _) (.cells ζ 48)))
    generalize wx.alloc _=wz at *
    generalize wx.heap.size=gz at *
    have HZ:=ħ hbn
    have HG:=ħ hge
    replace HR:=ħ hrn
    clear hbn hge hrn
    obtain ⟨wx,hwx⟩:∃ wx,wx=wz:=⟨_,rfl⟩
    rw[←hwx] at HR⊢
    try rw[←hwx] at HZ
    try rw[←hwx] at zk
    try rw[←hwx] at qx
    try rw[←hwx] at jq
    clear hwx
    refine hK.out _ _ ?_ (fun hHeld=>?_)
    ·exact HR.out
    clear hK K
    try simp only[Act.put,σa,σb,σc]
    refine wpAnyH_ready (rs:=[9]) (by kernel_rfl) (by simp) ?_
    refine AllReadyH.cons rfl (fun K hK=>?_) ?_
    ·skip
     go_simp
     go_wp2_with (go_at_call 94;((with_reducible refine (Ei.out _ (HW.out _ HR.out)).mono ?_);rintro e wz ⟨A2,c2,rfl,hr2,ht2,hbz⟩))
     replace HR:=ħ (HR.out.trans (Fr.of_below hbz (S:=fun _=>False)))
     try replace HZ:=ħ (HZ.out.below hbz HZ.out.lt)
     try replace zk:=ħ (And.intro (yD zk.out.1 hbz) (fun t h=>zl (zk.out.2 t h) hbz))
     have zk:=ħ (And.intro hr2 ht2)
     clear hbz hr2 ht2
     obtain ⟨wx,hwx⟩:∃ wx,wx=wz:=⟨_,rfl⟩
     rw[←hwx] at HR⊢
     try rw[←hwx] at HZ
     try rw[←hwx] at zk
     try rw[←hwx] at qx
     try rw[←hwx] at jq
     clear hwx
     refine hK.out _ _ ?_ (fun hHeld=>?_)
     ·exact HR.out
     clear hK K
     try simp only[Act.put,σa,σb,σc]
     refine wpAnyH_ready (rs:=[10]) (by kernel_rfl) (by simp) ?_
     refine AllReadyH.cons rfl (fun K hK=>?_) ?_
     ·skip
      go_simp
      go_wp2_with (go_at_call 30;((with_reducible refine (Yf.out A2 c2 _ (HW.out _ HR.out) zk.out.1).mono ?_);rintro e wz ⟨An,Ac,Au,cn,cc,cu,rfl,xW,hc3,hu3,hbz⟩))
      have qx:=ħ (show XR wz (fun j=>j<wz.heap.size∧((j<w.heap.size∧B j)∨wx.heap.size≤j)) ⟨x,An,Ac,Au,cn,cc,cu⟩ from ⟨xW,hc3,hu3⟩)
      have V4:=ħ (qx.out.more (B':=fun j=>j<wz.heap.size∧(j≠wz.heap.size→B j∧j≠wz.heap.size∧j≠w.heap.size+1)) (fun j hj=>⟨hj.1,fun hne=>⟨by have h4:=HR.out.size;rcases hj.2 with h3 | h3;exact h3.2;exact Kq.out j (by omega),hne,by have h3:=hj.2;have h4:=HR.out.size;omega⟩⟩))
      first | (have jq:=ħ (qx.out.more (B':=fun j=>B j∧j≠gz∧j≠w.heap.size+1) (fun j hj=>by have h1:=HG.out;have h2:=HZ.out.lt;have h4:=HR.out.size;exact ⟨by rcases hj.2 with h3 | h3;exact h3.2;exact Kq.out j (by omega),by have h3:=hj.2;omega,by have h3:=hj.2;omega⟩))) | skip
      clear qx
      have qx:=V4
      clear V4
      replace HR:=ħ (HR.out.trans (Fr.of_below hbz (S:=fun _=>False)))
      try replace HZ:=ħ (HZ.out.below hbz HZ.out.lt)
      try replace zk:=ħ (And.intro (yD zk.out.1 hbz) (fun t h=>zl (zk.out.2 t h) hbz))
      clear hbz xW hc3 hu3
      obtain ⟨wx,hwx⟩:∃ wx,wx=wz:=⟨_,rfl⟩
      rw[←hwx] at HR⊢
      try rw[←hwx] at HZ
      try rw[←hwx] at zk
      try rw[←hwx] at qx
      try rw[←hwx] at jq
      clear hwx
      refine hK.out _ _ ?_ (fun hHeld=>?_)
      ·exact HR.out
      clear hK K
      try simp only[Act.put,σa,σb,σc]
      refine wpAnyH_take (i:=11) (v:=?v14) rfl (by kernel_rfl) (by kernel_rfl) (by kernel_rfl) (fun _ _ _ h=>h) (Or.inl ⟨by rfl,?hy14⟩) hHeld ?rest14
      case hy14=>
       intro w0 hSw
       obtain ⟨⟨e0,e1⟩,e2,e3,e4,e5,e6,e7,e8,e9,e10,e11⟩:=jh.out w0 hSw
       go_simp
       try with_reducible rfl
      try simp only[Act.put,σa,σb,σc]
      refine wpAnyH_take (i:=12) (v:=?v15) rfl (by kernel_rfl) (by kernel_rfl) (by kernel_rfl) (fun _ _ _ h=>h) (Or.inl ⟨by rfl,?hy15⟩) hHeld ?rest15
      case hy15=>
       intro w0 hSw
       obtain ⟨⟨e0,e1⟩,e2,e3,e4,e5,e6,e7,e8,e9,e10,e11⟩:=jh.out w0 hSw
       go_simp
       try with_reducible rfl
      try simp only[Act.put,σa,σb,σc]
      refine wpAnyH_take (i:=13) (v:=?v16) rfl (by kernel_rfl) (by kernel_rfl) (by kernel_rfl) (fun _ _ _ h=>h) (Or.inl ⟨by rfl,?hy16⟩) hHeld ?rest16
      case hy16=>
       intro w0 hSw
       obtain ⟨⟨e0,e1⟩,e2,e3,e4,e5,e6,e7,e8,e9,e10,e11⟩:=jh.out w0 hSw
       go_simp
       try with_reducible rfl
      try simp only[Act.put,σa,σb,σc]
      refine wpAnyH_ready (rs:=[15]) (by kernel_rfl) (by simp) ?_
      refine AllReadyH.cons rfl (fun K hK=>?_) ?_
      ·skip
       refine zf _ (by rfl) (.tmp 5) (.tmp 19) 48 (by rfl) _ 48 _ (ξ x An cn Ac cc Au cu) _ 10 136 zJ (by rfl) (by rfl) (by rfl) HZ.out (by rfl) (zH (by simp[Value.oneCell'])) ?_
       intro wz hbz hfz hsz
       have jv:=ħ (jq.out.fr hfz (fun j hj e=>hj.2.1 e))
       try clear qx
       replace HR:=ħ (show Fr (fun _=>False) W8 wz from ⟨hfz.os.trans HR.out.os,hfz.tape.trans HR.out.tape,hfz.output.trans HR.out.output,Nat.le_trans HR.out.size hfz.size,fun k hk _=>(hfz.block k (Nat.lt_of_lt_of_le hk HR.out.size) (by have:=HG.out;omega)).trans (HR.out.block k hk (fun e=>e))⟩)
       replace HZ:=ħ hbz
       clear hbz hfz hsz
       obtain ⟨wx,hwx⟩:∃ wx,wx=wz:=⟨_,rfl⟩
       rw[←hwx] at HR⊢
       try rw[←hwx] at HZ
       try rw[←hwx] at zk
       rw[←hwx] at jv
       try rw[←hwx] at jq
       clear hwx
       refine hK.out _ _ ?_ (fun hHeld=>?_)
       ·exact HR.out
       clear hK K
       try simp only[Act.put,σa,σb,σc]
       refine wpAnyH_done (by kernel_rfl) ?_ _
       refine qb _ rfl (fun K hK=>?_)
       go_simp
       refine hK _ _ ?_
       go_wp2_with fail
       go_meet
       case rel=>exact ⟨_,An,Ac,Au,cn,cc,cu,rfl,HG.out,HZ.out,jv.out,HR.out⟩
      exact AllReadyH.nil
     exact AllReadyH.nil
    exact AllReadyH.nil
   exact AllReadyH.nil
  refine AllReadyH.cons rfl (fun K hK=>?_) ?_
  ·skip
   go_simp
   have hbn:=zb.new wx 48 ζ
   have hge:=HR.out.size
   have hrn:=HR.out.alloc (.cells ζ 48)
   try replace zk:=ħ (And.intro (zk.out.1.alloc (.cells ζ 48)) (fun t h=>(zk.out.2 t h).alloc (.cells ζ 48)))
   try have jq:=ħ ((qx.out.more (B':=fun j=>B j∧j≠wx.heap.size∧j≠w.heap.size+1) (fun j hj=>hj.2 (by have:=hj.1;omega))).below ((Below.refl _ _).alloc (Nat.le_refl _) (.cells ζ 48)))
   generalize wx.alloc _=wz at *
   generalize wx.heap.size=gz at *
   have HZ:=ħ hbn
   have HG:=ħ hge
   replace HR:=ħ hrn
   clear hbn hge hrn
   obtain ⟨wx,hwx⟩:∃ wx,wx=wz:=⟨_,rfl⟩
   rw[←hwx] at HR⊢
   try rw[←hwx] at HZ
   try rw[←hwx] at zk
   try rw[←hwx] at qx
   try rw[←hwx] at jq
   clear hwx
   refine hK.out _ _ ?_ (fun hHeld=>?_)
   ·exact HR.out
   clear hK K
   try simp only[Act.put,σa,σb,σc]
   refine wpAnyH_ready (rs:=[4]) (by kernel_rfl) (by simp) ?_
   refine AllReadyH.cons rfl (fun K hK=>?_) ?_
   ·skip
    go_simp
    go_wp2_with (go_at_call 20;((with_reducible refine (ZX.out _ (HW.out _ HR.out)).mono ?_);rintro e wz ⟨rfl,hbz⟩))
    replace HR:=ħ (HR.out.trans (Fr.of_below hbz (S:=fun _=>False)))
    try replace HZ:=ħ (HZ.out.below hbz HZ.out.lt)
    try replace zk:=ħ (And.intro (yD zk.out.1 hbz) (fun t h=>zl (zk.out.2 t h) hbz))
    clear hbz
    obtain ⟨wx,hwx⟩:∃ wx,wx=wz:=⟨_,rfl⟩
    rw[←hwx] at HR⊢
    try rw[←hwx] at HZ
    try rw[←hwx] at zk
    try rw[←hwx] at qx
    try rw[←hwx] at jq
    clear hwx
    refine hK.out _ _ ?_ (fun hHeld=>?_)
    ·exact HR.out
    clear hK K
    try simp only[Act.put,σa,σb,σc]
    refine wpAnyH_take (i:=5) (v:=?v17) rfl (by kernel_rfl) (by kernel_rfl) (by kernel_rfl) (fun _ _ _ h=>h) (Or.inl ⟨by rfl,?hy17⟩) hHeld ?rest17
    case hy17=>
     intro w0 hSw
     obtain ⟨⟨e0,e1⟩,e2,e3,e4,e5,e6,e7,e8,e9,e10,e11⟩:=jh.out w0 hSw
     go_simp
     try with_reducible rfl
    try simp only[Act.put,σa,σb,σc]
    refine wpAnyH_take (i:=6) (v:=?v18) rfl (by kernel_rfl) (by kernel_rfl) (by kernel_rfl) (fun _ _ _ h=>h) (Or.inl ⟨by rfl,?hy18⟩) hHeld ?rest18
    case hy18=>
     intro w0 hSw
     obtain ⟨⟨e0,e1⟩,e2,e3,e4,e5,e6,e7,e8,e9,e10,e11⟩:=jh.out w0 hSw
     go_simp
     try with_reducible rfl
    try simp only[Act.put,σa,σb,σc]
    refine wpAnyH_ready (rs:=[9]) (by kernel_rfl) (by simp) ?_
    refine AllReadyH.cons rfl (fun K hK=>?_) ?_
    ·skip
     go_simp
     go_wp2_with (go_at_call 94;((with_reducible refine (Ei.out _ (HW.out _ HR.out)).mono ?_);rintro e wz ⟨A2,c2,rfl,hr2,ht2,hbz⟩))
     replace HR:=ħ (HR.out.trans (Fr.of_below hbz (S:=fun _=>False)))
     try replace HZ:=ħ (HZ.out.below hbz HZ.out.lt)
     try replace zk:=ħ (And.intro (yD zk.out.1 hbz) (fun t h=>zl (zk.out.2 t h) hbz))
     have zk:=ħ (And.intro hr2 ht2)
     clear hbz hr2 ht2
     obtain ⟨wx,hwx⟩:∃ wx,wx=wz:=⟨_,rfl⟩
     rw[←hwx] at HR⊢
     try rw[←hwx] at HZ
     try rw[←hwx] at zk
     try rw[←hwx] at qx
     try rw[←hwx] at jq
     clear hwx
     refine hK.out _ _ ?_ (fun hHeld=>?_)
     ·exact HR.out
     clear hK K
     try simp only[Act.put,σa,σb,σc]
     refine wpAnyH_ready (rs:=[10]) (by kernel_rfl) (by simp) ?_
     refine AllReadyH.cons rfl (fun K hK=>?_) ?_
     ·skip
      go_simp
      go_wp2_with (go_at_call 30;((with_reducible refine (Yf.out A2 c2 _ (HW.out _ HR.out) zk.out.1).mono ?_);rintro e wz ⟨An,Ac,Au,cn,cc,cu,rfl,xW,hc3,hu3,hbz⟩))
      have qx:=ħ (show XR wz (fun j=>j<wz.heap.size∧((j<w.heap.size∧B j)∨wx.heap.size≤j)) ⟨x,An,Ac,Au,cn,cc,cu⟩ from ⟨xW,hc3,hu3⟩)
      have V4:=ħ (qx.out.more (B':=fun j=>j<wz.heap.size∧(j≠wz.heap.size→B j∧j≠wz.heap.size∧j≠w.heap.size+1)) (fun j hj=>⟨hj.1,fun hne=>⟨by have h4:=HR.out.size;rcases hj.2 with h3 | h3;exact h3.2;exact Kq.out j (by omega),hne,by have h3:=hj.2;have h4:=HR.out.size;omega⟩⟩))
      first | (have jq:=ħ (qx.out.more (B':=fun j=>B j∧j≠gz∧j≠w.heap.size+1) (fun j hj=>by have h1:=HG.out;have h2:=HZ.out.lt;have h4:=HR.out.size;exact ⟨by rcases hj.2 with h3 | h3;exact h3.2;exact Kq.out j (by omega),by have h3:=hj.2;omega,by have h3:=hj.2;omega⟩))) | skip
      clear qx
      have qx:=V4
      clear V4
      replace HR:=ħ (HR.out.trans (Fr.of_below hbz (S:=fun _=>False)))
      try replace HZ:=ħ (HZ.out.below hbz HZ.out.lt)
      try replace zk:=ħ (And.intro (yD zk.out.1 hbz) (fun t h=>zl (zk.out.2 t h) hbz))
      clear hbz xW hc3 hu3
      obtain ⟨wx,hwx⟩:∃ wx,wx=wz:=⟨_,rfl⟩
      rw[←hwx] at HR⊢
      try rw[←hwx] at HZ
      try rw[←hwx] at zk
      try rw[←hwx] at qx
      try rw[←hwx] at jq
      clear hwx
      refine hK.out _ _ ?_ (fun hHeld=>?_)
      ·exact HR.out
      clear hK K
      try simp only[Act.put,σa,σb,σc]
      refine wpAnyH_take (i:=11) (v:=?v19) rfl (by kernel_rfl) (by kernel_rfl) (by kernel_rfl) (fun _ _ _ h=>h) (Or.inl ⟨by rfl,?hy19⟩) hHeld ?rest19
      case hy19=>
       intro w0 hSw
       obtain ⟨⟨e0,e1⟩,e2,e3,e4,e5,e6,e7,e8,e9,e10,e11⟩:=jh.out w0 hSw
       go_simp
       try with_reducible rfl
      try simp only[Act.put,σa,σb,σc]
      refine wpAnyH_take (i:=12) (v:=?v20) rfl (by kernel_rfl) (by kernel_rfl) (by kernel_rfl) (fun _ _ _ h=>h) (Or.inl ⟨by rfl,?hy20⟩) hHeld ?rest20
      case hy20=>
       intro w0 hSw
       obtain ⟨⟨e0,e1⟩,e2,e3,e4,e5,e6,e7,e8,e9,e10,e11⟩:=jh.out w0 hSw
       go_simp
       try with_reducible rfl
      try simp only[Act.put,σa,σb,σc]
      refine wpAnyH_take (i:=13) (v:=?v21) rfl (by kernel_rfl) (by kernel_rfl) (by kernel_rfl) (fun _ _ _ h=>h) (Or.inl ⟨by rfl,?hy21⟩) hHeld ?rest21
      case hy21=>
       intro w0 hSw
       obtain ⟨⟨e0,e1⟩,e2,e3,e4,e5,e6,e7,e8,e9,e10,e11⟩:=jh.out w0 hSw
       go_simp
       try with_reducible rfl
      try simp only[Act.put,σa,σb,σc]
      refine wpAnyH_ready (rs:=[15]) (by kernel_rfl) (by simp) ?_
      refine AllReadyH.cons rfl (fun K hK=>?_) ?_
      ·skip
       refine zf _ (by rfl) (.tmp 5) (.tmp 19) 48 (by rfl) _ 48 _ (ξ x An cn Ac cc Au cu) _ 10 136 zJ (by rfl) (by rfl) (by rfl) HZ.out (by rfl) (zH (by simp[Value.oneCell'])) ?_
       intro wz hbz hfz hsz
       have jv:=ħ (jq.out.fr hfz (fun j hj e=>hj.2.1 e))
       try clear qx
       replace HR:=ħ (show Fr (fun _=>False) W8 wz from ⟨hfz.os.trans HR.out.os,hfz.tape.trans HR.out.tape,hfz.output.trans HR.out.output,Nat.le_trans HR.out.size hfz.size,fun k hk _=>(hfz.block k (Nat.lt_of_lt_of_le hk HR.out.size) (by have:=HG.out;omega)).trans (HR.out.block k hk (fun e=>e))⟩)
       replace HZ:=ħ hbz
       clear hbz hfz hsz
       obtain ⟨wx,hwx⟩:∃ wx,wx=wz:=⟨_,rfl⟩
       rw[←hwx] at HR⊢
       try rw[←hwx] at HZ
       try rw[←hwx] at zk
       rw[←hwx] at jv
       try rw[←hwx] at jq
       clear hwx
       refine hK.out _ _ ?_ (fun hHeld=>?_)
       ·exact HR.out
       clear hK K
       try simp only[Act.put,σa,σb,σc]
       refine wpAnyH_done (by kernel_rfl) ?_ _
       refine qb _ rfl (fun K hK=>?_)
       go_simp
       refine hK _ _ ?_
       go_wp2_with fail
       go_meet
       case rel=>exact ⟨_,An,Ac,Au,cn,cc,cu,rfl,HG.out,HZ.out,jv.out,HR.out⟩
      exact AllReadyH.nil
     exact AllReadyH.nil
    exact AllReadyH.nil
   exact AllReadyH.nil
  exact AllReadyH.nil
 case rest=>
  obtain ⟨p,An,Ac,Au,cn,cc,cu,rfl,hp2,hz,mI,hf⟩:=hcut
  have ZI:=ħ (HX0.out.fr hf (fun e=>e))
  have Zm:=ħ (HZ0.out.fr hf (fun e=>e))
  have Qq:=ħ (HW.out _ hf)
  have kT:=ħ hz
  have iD:=ħ mI
  have hs6:=hf.size
  clear hz mI hf jh HW Jm ZX Ei Yf hix HX0 HZ0
  have x0:=ZI.out.facts
  have y0:=kT.out.facts
  have FQ:=ħ (show Calls Tryz.prog 90 #[.agg #[.slice AL la.length cL,.slice AC lc.length cC],.agg (ξ x An cn Ac cc Au cu)] wc (dh la lc AC cC x (fun k=>B k∧k≠w.heap.size+1) wc) from jZ la AL cL lc AC cC ⟨x,An,Ac,Au,cn,cc,cu⟩ (fun k=>B k∧k≠w.heap.size+1) wc ((fu.out.below Qq.out).more (fun k hk=>⟨hk.2,by have:=hk.1;omega⟩)) (iD.out.more (fun j hj=>⟨hj.1,hj.2.2⟩)) (fun j hj=>⟨Kq.out j (by omega),by omega⟩) HN.out.sL (by omega))
  go_wp2_with (first | (go_at_call 90;((with_reducible refine FQ.out.mono ?_);rintro e w7 ⟨L1,A1,c1,rfl,hv1,hm1,hn1,hb1⟩;have BK:=ħ hv1;have iF:=ħ hm1;have lQ:=ħ (Zm.out.below hb1 Zm.out.lt);have Z7:=ħ (Qq.out.trans (hb1.mono Qq.out.size));clear hv1 hm1 hb1)) | (refine z8 rfl (.tmp 4) (.tmp 23) 29 rfl (w.heap.size+1) 29 _ #[.slice A1 L1.length c1,.slice AC lc.length cC] _ 2 48 zy rfl rfl rfl lQ.out rfl zq ?_;intro w8 zW zI yL))
  refine bodyPost_ret (results_cell_row (p:=4) (ty:=29) Tryz.results91 _ w8 (w.heap.size+1) 29 #[.slice A1 L1.length c1,.slice AC lc.length cC] (0,0) _ rfl zW Tryz.underlying29 rfl zm) rfl ?_
  refine ⟨L1,A1,c1,rfl,(BK.out.fr zI (fun j hj e=>hj.2 e)).more (fun j hj=>hj.1),?_,Z7.out.trans (zI.below Z7.out.size (fun j hj e=>by have e2:j=w.heap.size+1:=e;omega))⟩
  rw[iF.out,HE.out]
end Go.Proofs.YtdhcjhfgibmhfaaGreatDoor
