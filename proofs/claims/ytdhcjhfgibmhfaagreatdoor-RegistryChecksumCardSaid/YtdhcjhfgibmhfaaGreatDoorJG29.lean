import Derived.Test.YtdhcjhfgibmhfaaGreatDoorJG10
import Derived.Test.YtdhcjhfgibmhfaaGreatDoorJG1
import Derived.Test.YtdhcjhfgibmhfaaGreatDoorJG15
import Derived.Test.YtdhcjhfgibmhfaaGreatDoorJG18
set_option linter.unusedVariables false
set_option linter.unusedSimpArgs false
set_option maxRecDepth 10000
set_option maxHeartbeats 8000000
namespace Go.Proofs.YtdhcjhfgibmhfaaGreatDoor
open Go.RowKit Go.Own Go.Quo Go.Inc Go.Wire
theorem TN (B:Nat→Prop)(A:Option Addr)(c:Nat)(l:List Int)(w:World)(h:RI w B A l)(hl:l.length≤100000)(hr:mZ l):Calls Tryz.prog 115 #[.slice A l.length c] w (PO (encIs l) w):=by
 have H4:=ħ (WS 0 false ⟨#[]⟩ B A c l w h hl hr)
 clear h hr
 go_enter Tryz.func115,Tryz.ntmps115
 go_wp2_with (go_at_call 153;((with_reducible refine H4.out.mono ?_);rintro e w2 ⟨A,c,rfl,ho,hb⟩;have HO:=ħ ho;have HB2:=ħ hb;clear ho hb))
 go_ret
 exact ⟨A,c,rfl,HO.out,HB2.out⟩
theorem TK (b:Bool)(w:World):Calls Tryz.prog 116 #[.bool b] w (PO (encB b) w):=by
 have H4:=ħ (z00 0 b ⟨#[]⟩ (.slice none 0 0) rfl w)
 go_enter Tryz.func116,Tryz.ntmps116
 go_wp2_with (go_at_call 153;((with_reducible refine H4.out.mono ?_);rintro e w2 ⟨A,c,rfl,ho,hb⟩;have HO:=ħ ho;have HB2:=ħ hb;clear ho hb))
 go_ret
 exact ⟨A,c,rfl,HO.out,HB2.out⟩
theorem TE (B:Nat→Prop)(A:Option Addr)(c:Nat)(l:List Int)(w:World)(h:Reads w B 1 A l.length (bys l))(hl:l.length≤100000):Calls Tryz.prog 156 #[.slice A l.length c] w (PO (z01 (l.length:Int) ++ l) w):=by
 have HI:=ħ fun W=>PX (l.length:Int) W ⟨by omega,by omega⟩
 have hel:=PM (n:=(l.length:Int)) ⟨by omega,by omega⟩
 have HR:=ħ (show Reads w (· < w.heap.size) 1 A l.length (bys l) from (h.old (by omega)).more (fun k hk=>hk.2))
 clear h
 generalize z01 (l.length:Int)=en at *
 go_enter Tryz.func156,Tryz.ntmps156
 go_wp2_with (first | (go_at_call 113;((with_reducible refine (HI.out _).mono ?_);rintro e w3 ⟨A3,c3,rfl,ho3,hb3⟩;have zC:=ħ ho3;have HR3:=ħ (HR.out.below hb3 (fun k hk=>hk));have HB3:=ħ hb3;have hs3:=hb3.size;clear ho3 hb3)) | (at_builtin;refine ze _ rfl _ _ _ rfl w.heap.size 5 _ 1 1 Tryz.underlying99 info5 rfl (by omega) (.slice A3 en.length c3) en.length (bys en) rfl zC.out _ A l.length c (bys l) rfl HR3.out (PU _) (by simp only[maxLen];omega) (by omega) hs3 ?_;intro A4 c4 w4 Ri RG TT))
 try simp only[Act.put,σa,σb,σc]
 go_wp2_with fail
 go_ret
 exact ⟨A4,c4,by rw[List.length_append];rfl,by rw[List.length_append];unfold bys at Ri⊢;rw[List.map_append];exact Ri,HB3.out.grown RG hs3 (fun g hg=>(zC.out.lt g hg).1)⟩
theorem SX (w:World)(cs:Array Value)(t:TypeId)(fr:Nat × Nat)(n:Nat)(xs:List Value)(h:xs.length=n)(hx:∀ (j:Nat) u,xs[j]?=some u→cs[j]?=some u):Reads (w.alloc (.cells cs t fr)) (·=w.heap.size) 1 (some ⟨w.heap.size,0,none⟩) n xs:=by
 refine ⟨by omega,fun _=>⟨_,rfl,rfl,fun j u hu=>?_⟩⟩
 rw[Addr.add_lit,cell_of_row _ _ _ _ _ _ (heap_alloc_new w _)]
 simpa using hx j u hu
theorem RN (w:World)(s:ByteArray)(cap:Nat)(fr:Nat × Nat):Reads (w.alloc (.cells (bytesRow s cap) 5 fr)).drew (·=w.heap.size) 1 (some ⟨w.heap.size,0,none⟩) (Rh s).length (bys (Rh s)):=by
 refine Reads.drew (SX w _ 5 fr _ _ (by unfold bys;rw[List.length_map]) (fun j u hu=>?_))
 unfold bys Rh at hu
 unfold bytesRow
 have hj:=(List.getElem?_eq_some_iff.1 hu).1
 simp only[List.length_map,Array.length_toList] at hj
 rw[Array.getElem?_append_left (by simpa using hj)]
 simpa [Function.comp_def] using hu
theorem Wj (s:ByteArray)(w:World)(hl:s.size≤100000):Calls Tryz.prog 114 #[.string s] w (PO (z0d s) w):=by
 have hcv:=fun W=>run_bytes_of_string (P:=Tryz.prog) W 9 99 5 s Tryz.underlying9 Tryz.underlying99 Tryz.underlying5
 have HR:=ħ (RN w s (grownCap w s.size 0 5) ((bytesRow s (grownCap w s.size 0 5)).size,(bytesRow s (grownCap w s.size 0 5)).size+1))
 have HB:=ħ ((Below.refl w.heap.size w).alloc (Nat.le_refl _) (.cells (bytesRow s (grownCap w s.size 0 5)) 5 ((bytesRow s (grownCap w s.size 0 5)).size,(bytesRow s (grownCap w s.size 0 5)).size+1))).drew
 have HL:=Ro s
 go_enter Tryz.func114,Tryz.ntmps114
 have W_:=ħ (fun (W:World) cap (h:Reads W (·=w.heap.size) 1 (some ⟨w.heap.size,0,none⟩) (Rh s).length (bys (Rh s)))=>TE _ _ cap (Rh s) W h (by omega))
 rw[HL] at W_ HR
 clear HL
 go_wp2_with (go_at_call 156;((with_reducible refine (W_.out _ _ HR.out).mono ?_);rintro e w2 ⟨A,c,rfl,ho,hb⟩;have HO:=ħ ho;have HB2:=ħ (HB.out.trans (hb.mono HB.out.size));clear ho hb))
 go_ret
 have HS:=HB.out.size
 exact ⟨A,c,by unfold z0d;rw[List.length_append];rfl,World.ownsRow.mono HO.out HS,HB2.out⟩
def TV (t:Cr):List Int:=z01 t.call ++ z01 t.inc ++ z01 t.urg ++ z0d t.code ++ encIs t.nodes ++ z01 t.dist ++ z01 t.since ++ encB t.closed
structure TA (t:Cr):Prop where
 a:In64 t.call
 b:In64 t.inc
 c:In64 t.urg
 d:t.code.size≤1000
 e:t.nodes.length≤1000
 f:mZ t.nodes
 g:In64 t.dist
 h:In64 t.since
theorem R4 {a b:List Int}{w:World}{g:Nat}{A:Option Addr}{c:Nat}(h:w.ownsRow g 5 1 (.slice A (a.length+b.length) c) (a.length+b.length) (bys a ++ bys b)):w.ownsRow g 5 1 (.slice A (a ++ b).length c) (a ++ b).length (bys (a ++ b)):=by
 rw[List.length_append];unfold bys at h⊢;rw[List.map_append];exact h
theorem Tx {l:List Int}(h:mZ l)(hl:l.length≤1000):(encIs l).length≤10010:=by
 have h1:=RV l h
 have h2:=PM (n:=(l.length:Int)) ⟨by omega,by omega⟩
 unfold encIs;rw[List.length_append];omega
theorem Wi {s:ByteArray}(hl:s.size≤1000):(z0d s).length≤1010:=by
 have h2:=PM (n:=(s.size:Int)) ⟨by omega,by omega⟩
 have:=Ro s
 unfold z0d;rw[List.length_append];omega
theorem TQ (b:Bool):(encB b).length≤10:=by cases b <;> simp[encB]
theorem Tj (B:Nat→Prop)(t:Cr)(A:Option Addr)(k:Nat)(w:World)(h:RI w B A t.nodes)(hs:TA t):Calls Tryz.prog 66 #[.agg (χ t A k)] w (PO (TV t) w):=by
 have HR:=ħ (show RI w (· < w.heap.size) A t.nodes from (h.old (by omega)).more (fun k hk=>hk.2))
 have HX:=ħ (zb.new w 34 (χ t A k))
 have HB:=ħ ((Below.refl w.heap.size w).alloc (Nat.le_refl _) (.cells (χ t A k) 34))
 have G:=HB.out.size
 have H0:=ħ fun (W:World) (hb:Below w.heap.size w W)=>PX t.call W hs.a
 have l0:=PM hs.a
 have H1:=ħ fun (W:World) (hb:Below w.heap.size w W)=>PX t.inc W hs.b
 have l1:=PM hs.b
 have H2:=ħ fun (W:World) (hb:Below w.heap.size w W)=>PX t.urg W hs.c
 have l2:=PM hs.c
 have H3:=ħ fun (W:World) (hb:Below w.heap.size w W)=>Wj t.code W (by have:=hs.d;omega)
 have l3:=Wi hs.d
 have H4:=ħ fun (W:World) (hb:Below w.heap.size w W)=>TN _ A k _ W (HR.out.below hb (fun _ h=>h)) (by have:=hs.e;omega) hs.f
 have l4:=Tx hs.f hs.e
 have H5:=ħ fun (W:World) (hb:Below w.heap.size w W)=>PX t.dist W hs.g
 have l5:=PM hs.g
 have H6:=ħ fun (W:World) (hb:Below w.heap.size w W)=>PX t.since W hs.h
 have l6:=PM hs.h
 have H7:=ħ fun (W:World) (hb:Below w.heap.size w W)=>TK t.closed W
 have l7:=TQ t.closed
 have HE:=ħ (show TV t=z01 t.call ++ z01 t.inc ++ z01 t.urg ++ z0d t.code ++ encIs t.nodes ++ z01 t.dist ++ z01 t.since ++ encB t.closed from rfl)
 generalize z01 t.call=e0 at *
 generalize z01 t.inc=e1 at *
 generalize z01 t.urg=e2 at *
 generalize z0d t.code=e3 at *
 generalize encIs t.nodes=e4 at *
 generalize z01 t.dist=e5 at *
 generalize z01 t.since=e6 at *
 generalize encB t.closed=e7 at *
 generalize TV t=et at *
 have HL:=World.ownsRow_lit (base:=w.heap.size) (e:=5) (size:=1) (w.alloc (.cells (χ t A k) 34)) #[] 0 G (by simp only[maxLen];omega) rfl
 rw[show (w.alloc (.cells (χ t A k) 34)).heap.size=w.heap.size+1 by simp,show (#[]:Array Value).toList=bys [] from rfl] at HL
 replace HL:=ħ HL
 clear h hs HR
 have x0:=HX.out.facts
 go_enter Tryz.func66,Tryz.ntmps66
 go_upto_region 2 with (first
  | (go_at_call 113;((with_reducible refine (H0.out _ (HB.out.alloc HB.out.size _)).mono ?_);rintro e w2 ⟨A9,c9,rfl,ho,hb⟩;have HY:=ħ (Reads.of_own ho);have Zn:=ħ ((HB.out.alloc HB.out.size _).trans (hb.mono (HB.out.alloc HB.out.size _).size));have Y2:=ħ ((HX.out.alloc _).below hb (by have:=HX.out.lt;simp;omega));have hsz:=Zn.out.size;have Ra:=ħ (own_below HL.out hb (fun g hg=>(HL.out.lt g hg).2));clear ho hb x0))
  | (at_builtin;refine ze _ rfl _ _ _ rfl w.heap.size 5 _ 1 1 Tryz.underlying99 info5 rfl (by omega) (.slice (some ⟨w.heap.size+1,0,none⟩) 0 0) 0 (bys []) rfl Ra.out _ A9 e0.length c9 (bys e0) rfl HY.out (PU _) (by simp only[maxLen];omega) (by omega) hsz ?_;intro A1 c1 w1 hown hgr hat;have HB1:=ħ (Zn.out.grown hgr hsz (fun g hg=>(Ra.out.lt g hg).1));have KI:=ħ (Y2.out.grown hgr (fun e=>zR Ra.out Y2.out (by decide) _ e.symm rfl));have zu:=ħ (R4 (a:=[]) (b:=e0) hown);clear hown hgr hat Ra Y2 Zn HY hsz))
 try simp only[Act.put,σa,σb,σc]
 obtain ⟨a1,ha1⟩:∃ a,a=e0:=⟨_,rfl⟩
 have n1:a1.length≤10020:=by rw[ha1];omega
 rw[List.nil_append,←ha1] at zu;rw[←ha1];have HA1:=ħ ha1;clear ha1
 have x0:=KI.out.facts
 go_upto_region 3 with (first
  | (go_at_call 113;((with_reducible refine (H1.out _ HB1.out).mono ?_);rintro e w2 ⟨A9,c9,rfl,ho,hb⟩;have HY:=ħ (Reads.of_own ho);have Zn:=ħ (HB1.out.trans (hb.mono HB1.out.size));have Y2:=ħ (KI.out.below hb KI.out.lt);have hsz:=Zn.out.size;have Ra:=ħ (own_below zu.out hb (fun g hg=>(zu.out.lt g hg).2));clear ho hb x0))
  | (at_builtin;refine ze _ rfl _ _ _ rfl w.heap.size 5 _ 1 1 Tryz.underlying99 info5 rfl (by omega) (.slice A1 a1.length c1) a1.length (bys a1) rfl Ra.out _ A9 e1.length c9 (bys e1) rfl HY.out (PU _) (by simp only[maxLen];omega) (by omega) hsz ?_;intro A2 c2 w2 hown hgr hat;have HB2:=ħ (Zn.out.grown hgr hsz (fun g hg=>(Ra.out.lt g hg).1));have Zo:=ħ (Y2.out.grown hgr (fun e=>zR Ra.out Y2.out (by decide) _ e.symm rfl));have zk:=ħ (R4 (a:=a1) (b:=e1) hown);clear hown hgr hat Ra Y2 Zn HY hsz))
 try simp only[Act.put,σa,σb,σc]
 obtain ⟨a2,ha2⟩:∃ a,a=a1 ++ e1:=⟨_,rfl⟩
 have m2:a2.length=a1.length+e1.length:=by rw[ha2,List.length_append]
 have n2:a2.length≤20040:=by rw[m2];omega
 rw[←ha2] at zk;rw[←m2];have HA2:=ħ ha2;clear ha2 m2
 have x0:=Zo.out.facts
 go_upto_region 4 with (first
  | (go_at_call 113;((with_reducible refine (H2.out _ HB2.out).mono ?_);rintro e w2 ⟨A9,c9,rfl,ho,hb⟩;have HY:=ħ (Reads.of_own ho);have Zn:=ħ (HB2.out.trans (hb.mono HB2.out.size));have Y2:=ħ (Zo.out.below hb Zo.out.lt);have hsz:=Zn.out.size;have Ra:=ħ (own_below zk.out hb (fun g hg=>(zk.out.lt g hg).2));clear ho hb x0))
  | (at_builtin;refine ze _ rfl _ _ _ rfl w.heap.size 5 _ 1 1 Tryz.underlying99 info5 rfl (by omega) (.slice A2 a2.length c2) a2.length (bys a2) rfl Ra.out _ A9 e2.length c9 (bys e2) rfl HY.out (PU _) (by simp only[maxLen];omega) (by omega) hsz ?_;intro A3 c3 w3 hown hgr hat;have HB3:=ħ (Zn.out.grown hgr hsz (fun g hg=>(Ra.out.lt g hg).1));have qx:=ħ (Y2.out.grown hgr (fun e=>zR Ra.out Y2.out (by decide) _ e.symm rfl));have zC:=ħ (R4 (a:=a2) (b:=e2) hown);clear hown hgr hat Ra Y2 Zn HY hsz))
 try simp only[Act.put,σa,σb,σc]
 obtain ⟨a3,ha3⟩:∃ a,a=a2 ++ e2:=⟨_,rfl⟩
 have m3:a3.length=a2.length+e2.length:=by rw[ha3,List.length_append]
 have n3:a3.length≤30060:=by rw[m3];omega
 rw[←ha3] at zC;rw[←m3];have HA3:=ħ ha3;clear ha3 m3
 have x0:=qx.out.facts
 go_upto_region 5 with (first
  | (go_at_call 114;((with_reducible refine (H3.out _ HB3.out).mono ?_);rintro e w2 ⟨A9,c9,rfl,ho,hb⟩;have HY:=ħ (Reads.of_own ho);have Zn:=ħ (HB3.out.trans (hb.mono HB3.out.size));have Y2:=ħ (qx.out.below hb qx.out.lt);have hsz:=Zn.out.size;have Ra:=ħ (own_below zC.out hb (fun g hg=>(zC.out.lt g hg).2));clear ho hb x0))
  | (at_builtin;refine ze _ rfl _ _ _ rfl w.heap.size 5 _ 1 1 Tryz.underlying99 info5 rfl (by omega) (.slice A3 a3.length c3) a3.length (bys a3) rfl Ra.out _ A9 e3.length c9 (bys e3) rfl HY.out (PU _) (by simp only[maxLen];omega) (by omega) hsz ?_;intro A4 c4 w4 hown hgr hat;have Zp:=ħ (Zn.out.grown hgr hsz (fun g hg=>(Ra.out.lt g hg).1));have jv:=ħ (Y2.out.grown hgr (fun e=>zR Ra.out Y2.out (by decide) _ e.symm rfl));have zP:=ħ (R4 (a:=a3) (b:=e3) hown);clear hown hgr hat Ra Y2 Zn HY hsz))
 try simp only[Act.put,σa,σb,σc]
 obtain ⟨a4,ha4⟩:∃ a,a=a3 ++ e3:=⟨_,rfl⟩
 have m4:a4.length=a3.length+e3.length:=by rw[ha4,List.length_append]
 have n4:a4.length≤40080:=by rw[m4];omega
 rw[←ha4] at zP;rw[←m4];have HA4:=ħ ha4;clear ha4 m4
 have x0:=jv.out.facts
 go_upto_region 6 with (first
  | (go_at_call 115;((with_reducible refine (H4.out _ Zp.out).mono ?_);rintro e w2 ⟨A9,c9,rfl,ho,hb⟩;have HY:=ħ (Reads.of_own ho);have Zn:=ħ (Zp.out.trans (hb.mono Zp.out.size));have Y2:=ħ (jv.out.below hb jv.out.lt);have hsz:=Zn.out.size;have Ra:=ħ (own_below zP.out hb (fun g hg=>(zP.out.lt g hg).2));clear ho hb x0))
  | (at_builtin;refine ze _ rfl _ _ _ rfl w.heap.size 5 _ 1 1 Tryz.underlying99 info5 rfl (by omega) (.slice A4 a4.length c4) a4.length (bys a4) rfl Ra.out _ A9 e4.length c9 (bys e4) rfl HY.out (PU _) (by simp only[maxLen];omega) (by omega) hsz ?_;intro A5 c5 w5 hown hgr hat;have ZN:=ħ (Zn.out.grown hgr hsz (fun g hg=>(Ra.out.lt g hg).1));have jq:=ħ (Y2.out.grown hgr (fun e=>zR Ra.out Y2.out (by decide) _ e.symm rfl));have qm:=ħ (R4 (a:=a4) (b:=e4) hown);clear hown hgr hat Ra Y2 Zn HY hsz))
 try simp only[Act.put,σa,σb,σc]
 obtain ⟨a5,ha5⟩:∃ a,a=a4 ++ e4:=⟨_,rfl⟩
 have m5:a5.length=a4.length+e4.length:=by rw[ha5,List.length_append]
 have n5:a5.length≤50100:=by rw[m5];omega
 rw[←ha5] at qm;rw[←m5];have HA5:=ħ ha5;clear ha5 m5
 have x0:=jq.out.facts
 go_upto_region 7 with (first
  | (go_at_call 113;((with_reducible refine (H5.out _ ZN.out).mono ?_);rintro e w2 ⟨A9,c9,rfl,ho,hb⟩;have HY:=ħ (Reads.of_own ho);have Zn:=ħ (ZN.out.trans (hb.mono ZN.out.size));have Y2:=ħ (jq.out.below hb jq.out.lt);have hsz:=Zn.out.size;have Ra:=ħ (own_below qm.out hb (fun g hg=>(qm.out.lt g hg).2));clear ho hb x0))
  | (at_builtin;refine ze _ rfl _ _ _ rfl w.heap.size 5 _ 1 1 Tryz.underlying99 info5 rfl (by omega) (.slice A5 a5.length c5) a5.length (bys a5) rfl Ra.out _ A9 e5.length c9 (bys e5) rfl HY.out (PU _) (by simp only[maxLen];omega) (by omega) hsz ?_;intro A6 c6 w6 hown hgr hat;have Qq:=ħ (Zn.out.grown hgr hsz (fun g hg=>(Ra.out.lt g hg).1));have ZI:=ħ (Y2.out.grown hgr (fun e=>zR Ra.out Y2.out (by decide) _ e.symm rfl));have yS:=ħ (R4 (a:=a5) (b:=e5) hown);clear hown hgr hat Ra Y2 Zn HY hsz))
 try simp only[Act.put,σa,σb,σc]
 obtain ⟨a6,ha6⟩:∃ a,a=a5 ++ e5:=⟨_,rfl⟩
 have m6:a6.length=a5.length+e5.length:=by rw[ha6,List.length_append]
 have n6:a6.length≤60120:=by rw[m6];omega
 rw[←ha6] at yS;rw[←m6];have HA6:=ħ ha6;clear ha6 m6
 have x0:=ZI.out.facts
 go_upto_region 8 with (first
  | (go_at_call 113;((with_reducible refine (H6.out _ Qq.out).mono ?_);rintro e w2 ⟨A9,c9,rfl,ho,hb⟩;have HY:=ħ (Reads.of_own ho);have Zn:=ħ (Qq.out.trans (hb.mono Qq.out.size));have Y2:=ħ (ZI.out.below hb ZI.out.lt);have hsz:=Zn.out.size;have Ra:=ħ (own_below yS.out hb (fun g hg=>(yS.out.lt g hg).2));clear ho hb x0))
  | (at_builtin;refine ze _ rfl _ _ _ rfl w.heap.size 5 _ 1 1 Tryz.underlying99 info5 rfl (by omega) (.slice A6 a6.length c6) a6.length (bys a6) rfl Ra.out _ A9 e6.length c9 (bys e6) rfl HY.out (PU _) (by simp only[maxLen];omega) (by omega) hsz ?_;intro A7 c7 w7 hown hgr hat;have Z7:=ħ (Zn.out.grown hgr hsz (fun g hg=>(Ra.out.lt g hg).1));have Kn:=ħ (Y2.out.grown hgr (fun e=>zR Ra.out Y2.out (by decide) _ e.symm rfl));have j_:=ħ (R4 (a:=a6) (b:=e6) hown);clear hown hgr hat Ra Y2 Zn HY hsz))
 try simp only[Act.put,σa,σb,σc]
 obtain ⟨a7,ha7⟩:∃ a,a=a6 ++ e6:=⟨_,rfl⟩
 have m7:a7.length=a6.length+e6.length:=by rw[ha7,List.length_append]
 have n7:a7.length≤70140:=by rw[m7];omega
 rw[←ha7] at j_;rw[←m7];have HA7:=ħ ha7;clear ha7 m7
 have x0:=Kn.out.facts
 go_wp2_with (first
  | (go_at_call 116;((with_reducible refine (H7.out _ Z7.out).mono ?_);rintro e w2 ⟨A9,c9,rfl,ho,hb⟩;have HY:=ħ (Reads.of_own ho);have Zn:=ħ (Z7.out.trans (hb.mono Z7.out.size));have Y2:=ħ (Kn.out.below hb Kn.out.lt);have hsz:=Zn.out.size;have Ra:=ħ (own_below j_.out hb (fun g hg=>(j_.out.lt g hg).2));clear ho hb x0))
  | (at_builtin;refine ze _ rfl _ _ _ rfl w.heap.size 5 _ 1 1 Tryz.underlying99 info5 rfl (by omega) (.slice A7 a7.length c7) a7.length (bys a7) rfl Ra.out _ A9 e7.length c9 (bys e7) rfl HY.out (PU _) (by simp only[maxLen];omega) (by omega) hsz ?_;intro A8 c8 w8 hown hgr hat;have Jy:=ħ (Zn.out.grown hgr hsz (fun g hg=>(Ra.out.lt g hg).1));have BG:=ħ (Y2.out.grown hgr (fun e=>zR Ra.out Y2.out (by decide) _ e.symm rfl));have YY:=ħ (R4 (a:=a7) (b:=e7) hown);clear hown hgr hat Ra Y2 Zn HY hsz))
 try simp only[Act.put,σa,σb,σc]
 go_wp2_with fail
 go_ret
 have he:et=a7 ++ e7:=by rw[HE.out,HA7.out,HA6.out,HA5.out,HA4.out,HA3.out,HA2.out,HA1.out]
 rw[he]
 exact ⟨A8,c8,by rw[List.length_append];rfl,YY.out,Jy.out⟩
theorem XR.old {w:World}{B:Nat→Prop}{a:Xa}(h:XR w B a):XR w (· < w.heap.size) a:=⟨(h.n.old (by omega)).more (fun k hk=>hk.2),(h.c.old (by omega)).more (fun k hk=>hk.2),(h.u.old (by omega)).more (fun k hk=>hk.2)⟩
theorem XR.below_ {w w2:World}{a:Xa}(h:XR w (· < w.heap.size) a)(hb:Below w.heap.size w w2):XR w2 (· < w.heap.size) a:=⟨h.n.below hb (fun k hk=>hk),h.c.below hb (fun k hk=>hk),h.u.below hb (fun k hk=>hk)⟩
theorem RI.old_ {w:World}{B:Nat→Prop}{A:Option Addr}{l:List Int}(h:RI w B A l):RI w (· < w.heap.size) A l:=(h.old (by omega)).more (fun k hk=>hk.2)
end Go.Proofs.YtdhcjhfgibmhfaaGreatDoor
