import Derived.Test.YtdfobfjpkjddpaaGreatUG21
set_option linter.unusedVariables false
set_option linter.unusedSimpArgs false
set_option maxRecDepth 10000
set_option maxHeartbeats 8000000
namespace Go.Proofs.YtdfobfjpkjddpaaGreat
open Go.RowKit Go.Own Go.Quo Go.Wire Go.Raft
theorem hasB_iff {l:List Int}{x:Int}:hasB l x=decide (x∈l):=by
 rw[Bool.eq_iff_iff,decide_eq_true_eq];exact hasB_mem l x
section
variable (w:World) (col:Nat→Nat) (p v j l f:Nat) (s:Nd) (un:Bool) (outs:List Msg) (h:NS w col p v j l f s un outs)
include h
theorem com_w {k:Nat}(hw:Wf k s)(hk:k≤1900)(B1 B2:Nat)(hB1:B1<w.heap.size)(hB2:B2<w.heap.size)(hc1:w.cell? ⟨B1,0,none⟩=some (.pointer (some ⟨p,0,none⟩)))(hc2:w.cell? ⟨B2,0,none⟩=some (.int .i64 (s.log.length:Int))) :
 ∃ mm:Ms,w.cell? ⟨p,8,none⟩=some (.slice mm.A mm.o.length mm.c)∧w.cell? ⟨p,9,none⟩=some (.slice mm.A' mm.n.length mm.c')∧mm.o=s.mb.o∧mm.n=s.mb.n∧MR w (fun k=>col k=5) mm ∧
  Calls Tryz.prog 109 #[msV mm,.func (.func 110) #[] #[.pointer (some ⟨B1,0,none⟩),.pointer (some ⟨B2,0,none⟩)]] w fun e w'=>e=.returned (.int .i64 s.cand)∧Below w.heap.size w w':=by
 obtain ⟨mi,mm,Ao,co,ms,dur,hz,hm⟩:=h
 obtain ⟨c0,c1,x0,x1,x2,x3,x4,x5,x6,x7,x8,x9,-⟩:=hz.c
 refine ⟨mm,x8,x9,hz.mmo.1,hz.mmo.2,hz.rm,?_⟩
 have hv:=hw.vB
 have h9:=hw.m9
 rw[←hz.mmo.1,←hz.mmo.2] at hv h9
 have:=com_yes _ mm w hz.rm hv B1 B2 s.num (fun W hb x hx=>by
  obtain ⟨hx0,hx9⟩:=h9 x hx
  have:=clos110 W col p v j l f s un _ _ mi mm Ao co ms dur (hz.below hb) B1 B2 x.toNat (by omega) ((hb.cell hB1).trans hc1) ((hb.cell hB2).trans hc2)
  rwa [Int.toNat_of_nonneg hx0] at this)
 rw[hz.mmo.1,hz.mmo.2] at this
 exact this
end
def advG (P:Nat)(mb:Mb)(i:Int)(mem:List Int)(c:Nd):Nd:=if P=0∨c.commit<P then c else if mb.n≠[] then c.add 3 (encM mb.n []) else if i∈mem then c else { c with role:=1,ld:=-1 }
def advT (c:Nd):Nd:=advG (posC c.log) c.mb c.id c.mem c
theorem adv_eq (s:Nd):s.adv=advT s.comm:=by
 obtain ⟨k1,k2,k3,k4,k5,k6,k7,k8,k9⟩:=comm_same s
 show advG (posC s.log) s.mb s.id s.mem s.comm=advG (posC s.comm.log) s.comm.mb s.comm.id s.comm.mem s.comm
 rw[k1,k8,k5,show s.comm.mem=s.mem by unfold Nd.mem;rw[k8]]
section
variable (w:World) (col:Nat→Nat) (p v j l f:Nat) (s:Nd) (un:Bool) (outs:List Msg) (h:NS w col p v j l f s un outs)
include h
theorem advance74 {k:Nat}(hw:Wf k s)(hk:k≤1900)(ht:1≤s.term) :
 Calls Tryz.prog 74 #[.pointer (some ⟨p,0,none⟩)] w (WrPost w col p v j l f s.adv outs):=by
 have NB0:=ħ (NB.start h)
 have HFree:=ħ fun k (hk:w.heap.size≤k)=>h.free hk
 have HW:=ħ hw
 have hln:s.log.length≤40000:=by have:=hw.ln;omega
 have b1:Below w.heap.size w (w.alloc (.cells #[.pointer (some ⟨p,0,none⟩)] 31)):=(Below.refl _ _).alloc (Nat.le_refl _) _
 have g1:Blk (w.alloc (.cells #[.pointer (some ⟨p,0,none⟩)] 31)) w.heap.size 31 #[.pointer (some ⟨p,0,none⟩)]:=Blk.new w 31 _
 have NB1:=ħ (NB0.out.below b1)
 have HC:=ħ hw.cand
 clear h hw b1 NB0
 go_enter Tryz.func74,Tryz.ntmps74
 go_upto_region 1 with (fail)
 generalize w.alloc (.cells #[.pointer (some ⟨p,0,none⟩)] 31)=W1 at *
 have H17:=ħ (lastIndex17 W1 col p v j l f s un outs NB1.out.n (by omega))
 obtain ⟨q0,q1,q2⟩:=g1.facts
 go_upto_region 2 with (go_at_call 17;((with_reducible refine H17.out.mono ?_);rintro e w2 ⟨rfl,b2⟩))
 have b3:Below W1.heap.size W1 (w2.alloc (.cells #[.int .i64 (s.log.length:Int)] 2)):=b2.alloc b2.size _
 have g3:Blk (w2.alloc (.cells #[.int .i64 (s.log.length:Int)] 2)) w2.heap.size 2 #[.int .i64 (s.log.length:Int)]:=Blk.new w2 2 _
 have hs2:=b2.size
 have k3:=g1.below b3 g1.lt
 have NB3:=ħ (NB1.out.below b3)
 clear q0 q1 q2 H17 g1 NB1 b2 b3
 generalize w2.alloc (.cells #[.int .i64 (s.log.length:Int)] 2)=W3 at *
 obtain ⟨mm,x8,x9,mo,mn,hmr,hcom⟩:=com_w W3 col p v j l f s un outs NB3.out.n HW.out hk w.heap.size w2.heap.size k3.lt g3.lt (k3.cell 0) (g3.cell 0)
 have H109:=ħ hcom
 obtain ⟨q0,q1,q2⟩:=k3.facts
 have pl:=NB3.out.n.pl
 clear hcom mo mn hmr
 go_upto_region 3 with (go_at_call 109;((with_reducible refine H109.out.mono ?_);rintro e w4 ⟨rfl,b4⟩))
 have NB4:=ħ (NB3.out.below b4)
 have k4:=k3.below b4 k3.lt
 clear q0 q1 q2 x8 x9 pl k3 g3 H109 b4 NB3
 obtain ⟨n,hn⟩:∃ n,s.cand=n:=⟨_,rfl⟩
 have HN:=ħ hn
 rw[hn] at HC⊢
 obtain ⟨r,hr⟩:∃ r,(termAt s.log n).getD 0=r:=⟨_,rfl⟩
 obtain ⟨ok,hok⟩:∃ ok,(termAt s.log n).isSome=ok:=⟨_,rfl⟩
 obtain ⟨mi,mm2,Ao,co,ms,dur,hz,hm⟩:=NB4.out.n
 have H111:=ħ (termAt_any w4 _ l s.log n hz.ls (by omega) (by have:=HC.out;omega) r ok hr hok)
 have HR:=ħ hr
 have HO:=ħ hok
 obtain ⟨q0,q1,q2⟩:=k4.facts
 obtain ⟨c0,c1,x0,x1,x2,x3,x4,x5,x6,x7,x8,x9,x10,x11,x12,x13,x14,x15,x16,x44,x45,x46⟩:=hz.c
 clear x0 x1 x2 x3 x4 x6 x7 x8 x9 x10 x11 x12 x13 x14 x15 x16 x44 x45 x46 hz hm hr hok hn
 go_upto_region 4 with (go_at_call 111;((with_reducible refine H111.out.mono ?_);rintro e w5 ⟨rfl,b5⟩))
 have NB5:=ħ (NB4.out.below b5)
 have k5:=k4.below b5 k4.lt
 clear q0 q1 q2 c0 c1 x5 k4 NB4 H111 b5
 obtain ⟨mi,mm3,Ao,co,ms,dur,hz,hm⟩:=NB5.out.n
 have HNE:=ħ (k5.ne_ hz.b (by decide))
 obtain ⟨q0,q1,q2⟩:=k5.facts
 obtain ⟨c0,c1,x0,x1,x2,x3,x4,x5,x6,x7,x8,x9,x10,x11,x12,x13,x14,x15,x16,x44,x45,x46⟩:=hz.c
 have H44:=ħ (term44 w5 v j _ _ hz.vb)
 obtain ⟨q,hq⟩:∃ q,decide (s.commit<n∧termAt s.log n=some s.term)=q:=⟨_,rfl⟩
 have HQ:=ħ hq
 clear x0 x1 x2 x3 x5 x6 x7 x8 x9 x10 x11 x12 x14 x15 x16 x44 x45 x46 hz hm hq
 go_cut [43] (fun vx wx=>vx=.bool q∧w5=wx)
 case first=>
  cases ok with
  | false=>
   have hq:q=false:=by
    rw[←HQ.out];simp only[decide_eq_false_iff_not];rintro ⟨-,h2⟩
    have:=HO.out;rw[h2] at this;cases this
   subst hq
   go_wp2_with fail
   go_meet
   case rel=>exact ⟨rfl,rfl⟩
  | true=>
   have hT:termAt s.log n=some r:=by
    have h1:=HO.out;have h2:=HR.out
    cases ht:termAt s.log n with
    | none=>rw[ht] at h1;cases h1
    | some y=>rw[ht] at h2;simp at h2;rw[h2]
   rw[hT] at HQ
   by_cases h1:s.commit<n
   ·by_cases h2:r=s.term
    ·have hq:q=true:=by rw[←HQ.out];simp[h1,h2]
     have e2:(r == s.term)=true:=by simpa using h2
     have HQ2:=ħ h2
     clear HQ hT
     subst hq
     subst h2
     go_wp2_with (go_at_call 44;((with_reducible refine H44.out.mono ?_);rintro e w6 ⟨rfl,rfl⟩))
     go_meet
     case rel=>exact ⟨rfl,rfl⟩
    ·have hq:q=false:=by rw[←HQ.out];simp[h2]
     have e2:(r == s.term)=false:=by simpa using h2
     clear HQ hT
     subst hq
     go_wp2_with (go_at_call 44;((with_reducible refine H44.out.mono ?_);rintro e w6 ⟨rfl,rfl⟩))
     go_meet
     case rel=>exact ⟨rfl,rfl⟩
   ·have hq:q=false:=by rw[←HQ.out];simp[h1]
    clear HQ hT
    subst hq
    go_wp2_with fail
    go_meet
    case rel=>exact ⟨rfl,rfl⟩
 case rest=>
  obtain ⟨rfl,rfl⟩:=hcut
  have HCM:=ħ (show s.comm=if s.commit<s.cand∧termAt s.log s.cand=some s.term then { s with commit:=s.cand } else s from rfl)
  rw[HN.out] at HCM
  have NBx:∀ W,(q=true→W=w5.setCell ⟨p,13,none⟩ (.int .i64 n))→(q=false→W=w5)→NB w col p v j l f s.comm un outs W col∧Blk W w.heap.size 31 #[.pointer (some ⟨p,0,none⟩)]:=by
   intro W h1 h2
   cases q with
   | false=>
    rw[h2 rfl,HCM.out,if_neg (of_decide_eq_false HQ.out)]
    exact ⟨NB5.out,k5⟩
   | true=>
    rw[h1 rfl,HCM.out,if_pos (of_decide_eq_true HQ.out)]
    refine ⟨NB5.out.trans (NB5.out.n.set1 (fun mi mm o hb=>by have:=hb.set_ 13 (.int .i64 n);rwa [nd13] at this) ((Fr.refl (fun k=>k=p) w5).setCell (p:=⟨p,13,none⟩) (.inl rfl) _) ⟨rfl,rfl,rfl,rfl,rfl⟩ id),k5.far HNE.out _⟩
  have HNX:=ħ NBx
  clear NBx HR HO HC H44 x4
  go_upto_if 43 with (fail)
  go_cut [] (fun wx=>NB w col p v j l f s.comm un outs wx col∧Blk wx w.heap.size 31 #[.pointer (some ⟨p,0,none⟩)])
  case first=>
   cases q with
   | false=>
    go_wp2_with fail
    go_meet
    case rel=>exact HNX.out w5 (fun h=>by cases h) (fun _=>rfl)
   | true=>
    go_wp2_with fail
    go_meet
    case rel=>exact HNX.out _ (fun _=>rfl) (fun h=>by cases h)
  case rest=>
   obtain ⟨nb6,k6⟩:=hcut
   have NB6:=ħ nb6
   clear nb6 NB5 k5 q0 q1 q2 c0 c1 x13
   generalize wc=W6 at *
   clear HNX HCM HQ
   have HWC:=ħ HW.out.comm
   have HTC:=ħ (show 1≤s.comm.term by rw[(comm_same s).2.2.2.1];exact ht)
   have HSA:=ħ (adv_eq s)
   clear HW ht hln HN
   generalize s.comm=sc at *
   obtain ⟨mi6,mm6,Ao6,co6,ms6,dur6,hz6,hm6⟩:=NB6.out.n
   obtain ⟨mo6,mn6⟩:=hz6.mmo
   obtain ⟨c0,c1,x0,x1,x2,x3,x4,x5,x6,x7,x8,x9,x10,x11,x12,x13,x14,x15,x16,x44,x45,x46⟩:=hz6.c
   obtain ⟨q0,q1,q2⟩:=k6.facts
   have HAD:=ħ (show advT sc=if posC sc.log=0∨sc.commit<posC sc.log then sc else if sc.mb.n≠[] then sc.add 3 (encM sc.mb.n []) else if sc.id∈sc.mem then sc else { sc with role:=1,ld:=-1 } from rfl)
   have HZ6:=ħ hz6
   have HM6:=ħ mn6
   have HM6o:=ħ mo6
   clear x0 x1 x2 x3 x4 x5 x6 x7 x11 x12 x14 x15 x16 x44 x45 x46 hz6 hm6 mo6 mn6
   generalize posC sc.log=P at *
   obtain ⟨y,hy⟩:∃ y,decide (P=0∨sc.commit<P)=y:=⟨_,rfl⟩
   have HY:=ħ hy
   clear hy
   go_upto_region 6 with (fail)
   go_cut [63] (fun vx wx=>vx=.bool y∧Below W6.heap.size W6 wx)
   case first=>
    by_cases h0:P=0
    ·have e0:((P:Int) == 0)=true:=by simp[h0]
     have:y=true:=by rw[←HY.out];simp[h0]
     subst this
     clear h0
     go_quiet (fail)
     go_wp2_with fail
     go_meet
     exact ⟨rfl,(below_drewN (Below.refl _ _) _)⟩
    ·have e0:((P:Int) == 0)=false:=by simp;omega
     by_cases h1:sc.commit<P
     ·have:y=true:=by rw[←HY.out];simp[h1]
      subst this
      clear h0
      go_quiet (fail)
      go_wp2_with fail
      go_meet
      exact ⟨rfl,(below_drewN (Below.refl _ _) _)⟩
     ·have:y=false:=by rw[←HY.out];simp[h1,h0]
      subst this
      clear h0
      go_quiet (fail)
      go_wp2_with fail
      go_meet
      exact ⟨rfl,(below_drewN (Below.refl _ _) _)⟩
   case rest=>
    obtain ⟨rfl,hbc⟩:=hcut
    have NB7:=ħ (NB6.out.below hbc)
    have HZ7:=ħ (HZ6.out.below hbc)
    have k7:=k6.below hbc k6.lt
    clear q0 q1 q2 c0 c1 x8 x9 x10 x13 k6 NB6 HZ6 hbc
    obtain ⟨c0,c1,x0,x1,x2,x3,x4,x5,x6,x7,x8,x9,x10,x11,x12,x13,x14,x15,x16,x44,x45,x46⟩:=HZ7.out.c
    obtain ⟨q0,q1,q2⟩:=k7.facts
    clear x0 x1 x2 x3 x4 x5 x6 x7 x10 x13 x14 x15 x16 x44 x45 x46
    cases y with
    | true=>
     have HE:=ħ (show s.adv=sc by rw[HSA.out,HAD.out,if_pos (of_decide_eq_true HY.out)])
     clear HAD HY
     go_wp2_with fail
     go_ret
     rw[HE.out]
     exact ⟨rfl,un,NB7.out.done⟩
    | false=>
     have HAE:=ħ (show advT sc=if sc.mb.n≠[] then sc.add 3 (encM sc.mb.n []) else if sc.id∈sc.mem then sc else { sc with role:=1,ld:=-1 } by rw[HAD.out,if_neg (of_decide_eq_false HY.out)])
     clear HAD HY
     by_cases hn:0<mm6.n.length
     ·have hn':(0:Int)<(mm6.n.length:Int):=by omega
      have hnn:sc.mb.n≠[]:=fun e=>by have:=HM6.out;rw[e] at this;rw[this] at hn;simp at hn
      have HE:=ħ (show s.adv=sc.add 3 (encM sc.mb.n []) by rw[HSA.out,HAE.out,if_pos hnn])
      have hsf:setF mm6.o mm6.n=(mm6.n,[],0):=by
       unfold setF
       rw[HM6o.out,HM6.out,if_pos HWC.out.vB,if_neg (fun e=>hnn (List.eq_nil_of_length_eq_zero e))]
      have H112:=ħ (end_any _ mm6 wc HZ7.out.rm)
      rw[hsf] at H112
      clear HAE hnn hsf
      go_upto_region 10 with (go_at_call 112;((with_reducible refine H112.out.mono ?_);rintro e w8 ⟨m',hm1,hm2,rfl,hm3,b8⟩;have HM1:=ħ hm1;have HM2:=ħ hm2;clear hm1 hm2))
      have Z1:¬ col w.heap.size≠0:=fun e=>e (HFree.out _ (Nat.le_refl _))
      have Z0:¬ col w8.heap.size≠0:=fun e=>e (HFree.out _ (Nat.le_trans NB7.out.fr.size b8.size))
      have b9:Below wc.heap.size wc (w8.alloc (.cells (msC m') 24)):=b8.alloc b8.size _
      have g9:Blk (w8.alloc (.cells (msC m') 24)) w8.heap.size 24 (msC m'):=Blk.new w8 24 _
      have m9:=hm3.alloc (.cells (msC m') 24)
      have NB9:=ħ (NB7.out.below b9)
      have k9:=k7.below b9 k7.lt
      clear q0 q1 q2 c0 c1 x8 x9 x11 x12 k7 b8 hm3 b9 H112 HZ7 NB7
      generalize w8.alloc (.cells (msC m') 24)=W9 at *
      obtain ⟨q0,q1,q2⟩:=k9.facts
      have y0:W9.cell? ⟨w8.heap.size,0,none⟩=some (.slice m'.A m'.o.length m'.c):=g9.cell 0
      have y1:W9.cell? ⟨w8.heap.size,1,none⟩=some (.slice m'.A' m'.n.length m'.c'):=g9.cell 1
      have y2:=g9.lt
      have H72:=ħ fun W (x:NS W col p v j l f sc un outs)=>ok72 W col p v j l f sc un outs x
      have HM9:=ħ m9.old
      have H70:=ħ fun W (x:MR W (· < W9.heap.size) m')=>encode_any _ m' W x
      have H73:=ħ fun W (x:NS W col p v j l f sc un outs) A c (hb:Reads W (W9.heap.size≤·) 1 A (encM m'.o m'.n).length (bys (encM m'.o m'.n)))=>add_w W col p v j l f sc un outs x (k:=k) HWC.out hk HTC.out 3 ⟨by decide,by decide⟩ A c (encM m'.o m'.n) _ hb (fun g hg=>NB9.out.n.free hg) (encM_small _ _)
      rw[HM1.out,HM2.out,HM6.out] at H73 H70
      clear m9
      have HK:=ħ fun W' (b1:Blk W' w.heap.size 31 #[.pointer (some ⟨p,0,none⟩)]) (b2:Blk W' w8.heap.size 24 (msC m'))=>(show (W'.cell? ⟨w.heap.size,0,none⟩=some (.pointer (some ⟨p,0,none⟩)))∧(W'.cell? ⟨w8.heap.size,0,none⟩=some (.slice m'.A m'.o.length m'.c)∧W'.cell? ⟨w8.heap.size,1,none⟩=some (.slice m'.A' m'.n.length m'.c')) from ⟨b1.cell 0,b2.cell 0,b2.cell 1⟩)
      have K1:=HK.out W9 k9 g9
      have N9:=NB9.out.n.below (Below.refl _ _).drew
      have M9:=HM9.out.below (Below.refl W9.heap.size W9).drew
      go_region_held (fun W'=>(W'.cell? ⟨w.heap.size,0,none⟩=some (.pointer (some ⟨p,0,none⟩)))∧(W'.cell? ⟨w8.heap.size,0,none⟩=some (.slice m'.A m'.o.length m'.c)∧W'.cell? ⟨w8.heap.size,1,none⟩=some (.slice m'.A' m'.n.length m'.c'))) (first | assumption | exact K1) (first
       | (((with_reducible refine (H72.out _ N9).mono ?_);rintro e w10 ⟨rfl,rfl⟩))
       | (((with_reducible refine (H70.out _ M9).mono ?_);rintro e w11 ⟨A5,c5,rfl,hr5,hb5⟩;have B5:=((Below.refl W9.heap.size W9).drew).trans hb5;clear hb5;have k11:=k9.below B5 k9.lt;have g11:=g9.below B5 g9.lt;have K2:=HK.out _ k11 g11;have N11:=NB9.out.n.below B5;have R5:Reads w11 (W9.heap.size≤·) 1 A5 (encM sc.mb.n []).length (bys (encM sc.mb.n [])):=hr5;clear hr5))
       | (((with_reducible refine (H73.out _ N11 A5 c5 R5).mono ?_);rintro e w12 ⟨rfl,un',hnp⟩;have k12:=k11.fr hnp.frame Z1;have g12:=g11.fr hnp.frame Z0;have K3:=HK.out _ k12 g12)))
      all_goals
       go_wp2_with fail
       go_ret
       rw[HE.out]
       exact ⟨rfl,un',(NB9.out.below B5).call hnp⟩
     ·have hn':¬ (0:Int)<(mm6.n.length:Int):=by omega
      have hnn:¬ sc.mb.n≠[]:=fun e=>e (by have:=HM6.out;rw[←this];exact List.eq_nil_of_length_eq_zero (by omega))
      have H47:=ħ (member47 wc col p v j l f sc un outs NB7.out.n HWC.out.vB)
      rw[hasB_iff] at H47
      obtain ⟨z,hz⟩:∃ z,decide (sc.id∈sc.mem)=z:=⟨_,rfl⟩
      rw[hz] at H47
      have HZZ:=ħ hz
      have HE:=ħ (show s.adv=if sc.id∈sc.mem then sc else { sc with role:=1,ld:=-1 } by rw[HSA.out,HAE.out,if_neg hnn])
      clear HAE hnn hz
      go_upto_region 11 with (fail)
      cases z with
      | true=>
       go_wp2_with (go_at_call 47;((with_reducible refine H47.out.mono ?_);rintro e w8 ⟨rfl,b8⟩))
       go_ret
       rw[HE.out,if_pos (of_decide_eq_true HZZ.out)]
       exact ⟨rfl,un,(NB7.out.below b8).done⟩
      | false=>
       go_upto_region 12 with (go_at_call 47;((with_reducible refine H47.out.mono ?_);rintro e w8 ⟨rfl,b8⟩))
       have NB8:=ħ (NB7.out.below b8)
       have HZ8:=ħ (HZ7.out.below b8)
       have k8:=k7.below b8 k7.lt
       have HB:=ħ (NB8.out.n.set1 (w':=(w8.setCell ⟨p,11,none⟩ (.int .i64 1)).setCell ⟨p,12,none⟩ (.int .i64 (-1))) (s':={ sc with role:=1,ld:=-1 }) (fun mi mm o hb=>by have:=(hb.set_ 11 (.int .i64 1)).set_ 12 (.int .i64 (-1));rwa [nd11,nd12] at this) (((Fr.refl (fun k=>k=p) w8).setCell (p:=⟨p,11,none⟩) (.inl rfl) _).setCell (p:=⟨p,12,none⟩) (.inl rfl) _) ⟨rfl,rfl,rfl,rfl,rfl⟩ id)
       clear q0 q1 q2 c0 c1 x8 x9 x11 x12 k7 b8
       obtain ⟨c0,c1,x0,x1,x2,x3,x4,x5,x6,x7,x8,x9,x10,x11,x12,x13,x14,x15,x16,x44,x45,x46⟩:=HZ8.out.c
       obtain ⟨q0,q1,q2⟩:=k8.facts
       clear x0 x1 x2 x3 x4 x5 x6 x7 x8 x9 x10 x13 x14 x15 x16 x44 x45 x46
       go_region
       go_wp2_with fail
       go_ret
       rw[HE.out,if_neg (of_decide_eq_false HZZ.out)]
       exact ⟨rfl,un,((NB8.out.trans HB.out).below (Below.refl _ _).drew).done⟩
end
structure KB (w:World) (col:Nat→Nat) (p v j l f:Nat) (s:Nd) (un:Bool) (outs:List Msg) (b:Nat) (t:TypeId) (cs:Array Value) (W:World) (cr:Nat→Nat):Prop where
 n:NB w col p v j l f s un outs W cr
 k:Blk W b t cs
 z:cr b=0
section
variable {w W W2:World} {col cr:Nat→Nat} {p v j l f:Nat} {s s':Nd} {un un':Bool} {outs outs':List Msg} {b:Nat} {t:TypeId} {cs:Array Value}
theorem KB.below (h:KB w col p v j l f s un outs b t cs W cr)(hb:Below W.heap.size W W2):KB w col p v j l f s un outs b t cs W2 cr:=⟨h.n.below hb,h.k.below hb h.k.lt,h.z⟩
theorem KB.call (h:KB w col p v j l f s un outs b t cs W cr)(k:NP W cr p v j l f s' un' outs' W2):∃ c2,KB w col p v j l f s' un' outs' b t cs W2 c2:=by
 obtain ⟨c2,k⟩:=k
 exact ⟨c2,h.n.trans k,h.k.fr k.fr (fun e=>e h.z),by rw[k.ag _ h.k.lt];exact h.z⟩
theorem KB.set1 (h:KB w col p v j l f s un outs b t cs W cr)(k:NB W cr p v j l f s' un' outs W2 cr):KB w col p v j l f s' un' outs b t cs W2 cr:=⟨h.n.trans k,h.k.fr k.fr (fun e=>e h.z),h.z⟩
theorem KB.start (h:NS w col p v j l f s un outs)(hb:Below w.heap.size w W)(k:Blk W b t cs)(hl:w.heap.size≤b):KB w col p v j l f s un outs b t cs W col:=⟨(NB.start h).below hb,k,h.free hl⟩
theorem NS.x (h:NS w col p v j l f s un outs):p<w.heap.size∧(∀ i,w.frozen? ⟨p,i,none⟩=false)∧w.cell? ⟨p,0,none⟩=some (.int .i64 s.id)∧w.cell? ⟨p,1,none⟩=some (.int .i64 s.wait)∧w.cell? ⟨p,2,none⟩=some (.int .i64 s.beat)∧w.cell? ⟨p,3,none⟩=some (.pointer (some ⟨j,0,none⟩))∧w.cell? ⟨p,4,none⟩=some (.pointer (some ⟨v,0,none⟩))∧w.cell? ⟨p,5,none⟩=some (.pointer (some ⟨l,0,none⟩))∧w.cell? ⟨p,10,none⟩=some (.int .i64 (posC s.log))∧w.cell? ⟨p,11,none⟩=some (.int .i64 s.role)∧w.cell? ⟨p,12,none⟩=some (.int .i64 s.ld)∧w.cell? ⟨p,13,none⟩=some (.int .i64 s.commit)∧w.cell? ⟨p,14,none⟩=some (.int .i64 s.since)∧w.cell? ⟨p,15,none⟩=some (.int .i64 s.hb)∧w.cell? ⟨p,44,none⟩=some (.int .i64 0):=by
 obtain ⟨mi,mm,Ao,co,ms,dur,hz,hm⟩:=h
 obtain ⟨c0,c1,x0,x1,x2,x3,x4,x5,x6,x7,x8,x9,x10,x11,x12,x13,x14,x15,x16,x44,x45,x46⟩:=hz.c
 exact ⟨c0,c1,x0,x1,x2,x3,x4,x5,x10,x11,x12,x13,x14,x15,x44⟩
theorem NS.nx (h:NS w col p v j l f s un outs){k:Nat}(hk:k<9):w.cell? ⟨p,26+k,none⟩=some (.int .i64 (gd s.nx k)):=by
 obtain ⟨_,_,_,_,_,_,hz,_⟩:=h
 exact hz.next hk
theorem NS.mt (h:NS w col p v j l f s un outs){k:Nat}(hk:k<9):w.cell? ⟨p,35+k,none⟩=some (.int .i64 (gd s.mt k)):=by
 obtain ⟨_,_,_,_,_,_,hz,_⟩:=h
 exact hz.mat hk
theorem NS.vc (h:NS w col p v j l f s un outs){k:Nat}(hk:k<9):w.cell? ⟨p,17+k,none⟩=some (.bool (s.vs.getD k false)):=by
 obtain ⟨_,_,_,_,_,_,hz,_⟩:=h
 exact hz.vote hk
theorem NS.vb (h:NS w col p v j l f s un outs):Blk w v 122 #[.pointer (some ⟨j,0,none⟩),.int .i64 s.term,.int .i64 s.voted]:=by
 obtain ⟨_,_,_,_,_,_,hz,_⟩:=h
 exact hz.vb
theorem NS.ls (h:NS w col p v j l f s un outs):LS w (fun k=>col k=4) l s.log:=by
 obtain ⟨_,_,_,_,_,_,hz,_⟩:=h
 exact hz.ls
theorem NS.l9 (h:NS w col p v j l f s un outs):s.vs.length=9∧s.nx.length=9∧s.mt.length=9:=by
 obtain ⟨_,_,_,_,_,_,hz,_⟩:=h
 exact hz.l9
theorem NS.st11 (h:NS w col p v j l f s un outs)(y:Int):NB w col p v j l f { s with role:=y } un outs (w.setCell ⟨p,11,none⟩ (.int .i64 y)) col:=h.set1 (fun mi mm o hb=>by have:=hb.set_ 11 (.int .i64 y);rwa [nd11] at this) ((Fr.refl (fun k=>k=p) w).setCell (p:=⟨p,11,none⟩) (.inl rfl) _) ⟨rfl,rfl,rfl,rfl,rfl⟩ id
theorem NS.st12 (h:NS w col p v j l f s un outs)(y:Int):NB w col p v j l f { s with ld:=y } un outs (w.setCell ⟨p,12,none⟩ (.int .i64 y)) col:=h.set1 (fun mi mm o hb=>by have:=hb.set_ 12 (.int .i64 y);rwa [nd12] at this) ((Fr.refl (fun k=>k=p) w).setCell (p:=⟨p,12,none⟩) (.inl rfl) _) ⟨rfl,rfl,rfl,rfl,rfl⟩ id
theorem NS.st13 (h:NS w col p v j l f s un outs)(y:Int):NB w col p v j l f { s with commit:=y } un outs (w.setCell ⟨p,13,none⟩ (.int .i64 y)) col:=h.set1 (fun mi mm o hb=>by have:=hb.set_ 13 (.int .i64 y);rwa [nd13] at this) ((Fr.refl (fun k=>k=p) w).setCell (p:=⟨p,13,none⟩) (.inl rfl) _) ⟨rfl,rfl,rfl,rfl,rfl⟩ id
theorem NS.st14 (h:NS w col p v j l f s un outs)(y:Int):NB w col p v j l f { s with since:=y } un outs (w.setCell ⟨p,14,none⟩ (.int .i64 y)) col:=h.set1 (fun mi mm o hb=>by have:=hb.set_ 14 (.int .i64 y);rwa [nd14] at this) ((Fr.refl (fun k=>k=p) w).setCell (p:=⟨p,14,none⟩) (.inl rfl) _) ⟨rfl,rfl,rfl,rfl,rfl⟩ id
theorem NS.st15 (h:NS w col p v j l f s un outs)(y:Int):NB w col p v j l f { s with hb:=y } un outs (w.setCell ⟨p,15,none⟩ (.int .i64 y)) col:=h.set1 (fun mi mm o hb=>by have:=hb.set_ 15 (.int .i64 y);rwa [nd15] at this) ((Fr.refl (fun k=>k=p) w).setCell (p:=⟨p,15,none⟩) (.inl rfl) _) ⟨rfl,rfl,rfl,rfl,rfl⟩ id
theorem NS.stv (h:NS w col p v j l f s un outs){k:Nat}(hk:k<9)(y:Bool):NB w col p v j l f { s with vs:=s.vs.set k y } un outs (w.setCell ⟨p,17+k,none⟩ (.bool y)) col:=h.set1 (fun mi mm o hb=>by have:=hb.set_ (17+k) (.bool y);rwa [nd17 h.l9.1 hk] at this) ((Fr.refl (fun k=>k=p) w).setCell (p:=⟨p,17+k,none⟩) (.inl rfl) _) ⟨rfl,rfl,rfl,rfl,rfl⟩ (fun h=>⟨by rw[List.length_set];exact h.1,h.2⟩)
theorem NS.stn (h:NS w col p v j l f s un outs){k:Nat}(hk:k<9)(y:Int):NB w col p v j l f { s with nx:=s.nx.set k y } un outs (w.setCell ⟨p,26+k,none⟩ (.int .i64 y)) col:=h.set1 (fun mi mm o hb=>by have:=hb.set_ (26+k) (.int .i64 y);rwa [nd26 ⟨h.l9.1,h.l9.2.1⟩ hk] at this) ((Fr.refl (fun k=>k=p) w).setCell (p:=⟨p,26+k,none⟩) (.inl rfl) _) ⟨rfl,rfl,rfl,rfl,rfl⟩ (fun h=>⟨h.1,by rw[List.length_set];exact h.2.1,h.2.2⟩)
theorem NS.stm (h:NS w col p v j l f s un outs){k:Nat}(hk:k<9)(y:Int):NB w col p v j l f { s with mt:=s.mt.set k y } un outs (w.setCell ⟨p,35+k,none⟩ (.int .i64 y)) col:=h.set1 (fun mi mm o hb=>by have:=hb.set_ (35+k) (.int .i64 y);rwa [nd35 h.l9 hk] at this) ((Fr.refl (fun k=>k=p) w).setCell (p:=⟨p,35+k,none⟩) (.inl rfl) _) ⟨rfl,rfl,rfl,rfl,rfl⟩ (fun h=>⟨h.1,h.2.1,by rw[List.length_set];exact h.2.2⟩)
end
theorem set_rep {α:Type}(x:List α)(a:α)(k:Nat)(hk:k<x.length):(List.replicate k a ++ x.drop k).set k a=List.replicate (k+1) a ++ x.drop (k+1):=by
 rw[List.set_append_right _ _ (by simp),List.length_replicate,Nat.sub_self,List.drop_eq_getElem_cons hk,σb,List.replicate_succ',List.append_assoc]
 rfl
def ldK (s:Nd)(k:Nat):Nd:={ s with role:=3,ld:=s.id,nx:=List.replicate k (s.log.length+1:Int) ++ s.nx.drop k,mt:=List.replicate k 0 ++ s.mt.drop k }
theorem ldK9 {s:Nd}(h:s.vs.length=9∧s.nx.length=9∧s.mt.length=9):ldK s 9=s.lead0:=by
 unfold ldK Nd.lead0
 rw[List.drop_eq_nil_of_le (by omega),List.drop_eq_nil_of_le (by omega),List.append_nil,List.append_nil]
def UPost (w:World)(col:Nat→Nat)(p v j l f:Nat)(r:Nd × List Msg)(outs:List Msg)(e:Ending)(w':World):Prop:=e=.returned (.tuple #[])∧∃ un',NP w col p v j l f r.1 un' (outs ++ r.2) w'
section
variable (w:World) (col:Nat→Nat) (p v j l f:Nat) (s:Nd) (un:Bool) (outs:List Msg) (h:NS w col p v j l f s un outs)
include h
theorem lead80 {k:Nat}(hw:Wf k s)(hk:k≤1800)(ht:1≤s.term)(ho:outs.length≤800)(now:Int) :
 Calls Tryz.prog 80 #[.pointer (some ⟨p,0,none⟩),.int .i64 now] w (UPost w col p v j l f (s.lead now) outs):=by
 have HW:=ħ hw
 have hln:s.log.length≤40000:=by have:=hw.ln;omega
 have HL9:=ħ h.l9
 have HH:=ħ h
 have N1:=(h.st11 3).trans ((h.st11 3).n.st12 s.id)
 have N2:=ħ (show NB w col p v j l f (ldK s 0) un outs ((w.setCell ⟨p,11,none⟩ (.int .i64 3)).setCell ⟨p,12,none⟩ (.int .i64 s.id)) col from N1)
 have H17:=ħ fun W cr s' (x:NS W cr p v j l f s' un outs) (e:s'.log=s.log)=>e ▸ lastIndex17 W cr p v j l f s' un outs x (by rw[e];omega)
 obtain ⟨c0,c1,x0,x1,x2,x3,x4,x5,x10,x11,x12,x13,x14,x15,x44⟩:=h.x
 clear h hw N1 x1 x2 x3 x4 x5 x10 x13 x14 x15 x44
 go_enter Tryz.func80,Tryz.ntmps80
 go_upto_region 1 with (fail)
 generalize (w.setCell ⟨p,11,none⟩ (.int .i64 3)).setCell ⟨p,12,none⟩ (.int .i64 s.id)=W2 at *
 clear c0 c1 x0 x11 x12
 go_wp2_with fail
 go_loopw [15] (fun vi wr=>∃ k:Nat,k≤9∧vi=.int .i64 (k:Int)∧NB w col p v j l f (ldK s k) un outs wr col) (fun vi _=>9 - (intOf vi).toNat)
 case atStart=>exact ⟨0,by omega,rfl,N2.out⟩
 case round=>
  obtain ⟨i,hi,rfl,hnb⟩:=hrel
  have HB:=ħ hnb
  clear hnb
  by_cases hi9:i<9
  ·have hlt:(i:Int)<9:=by omega
   have HA:=ħ (HB.out.trans ((HB.out.n.stm hi9 0)))
   have HE:=ħ (show ldK s (i+1) = { ldK s i with nx:=(ldK s i).nx.set i ((s.log.length:Int)+1),mt:=(ldK s i).mt.set i 0 } from by
    show ldK s (i+1) = { s with role:=3,ld:=s.id,nx:=(List.replicate i ((s.log.length:Int)+1) ++ s.nx.drop i).set i ((s.log.length:Int)+1),mt:=(List.replicate i 0 ++ s.mt.drop i).set i 0 }
    rw[set_rep s.nx _ i (by rw[HL9.out.2.1];exact hi9),set_rep s.mt 0 i (by rw[HL9.out.2.2];exact hi9)]
    rfl)
   have HN1:=ħ fun W (hb:Below wr.heap.size wr W)=>(show NB w col p v j l f (ldK s (i+1)) un outs ((W.setCell ⟨p,26+i,none⟩ (.int .i64 (s.log.length+1))).setCell ⟨p,35+i,none⟩ (.int .i64 0)) col from by
    have h1:=HB.out.below hb
    have h2:=h1.n.stn hi9 (s.log.length+1)
    rw[HE.out]
    exact h1.trans (h2.trans (h2.n.stm hi9 0)))
   have HN2:=ħ fun W (hb:Below wr.heap.size wr W)=>(show NB w col p v j l f (ldK s (i+1)) un outs ((W.setCell ⟨p,35+i,none⟩ (.int .i64 0)).setCell ⟨p,26+i,none⟩ (.int .i64 (s.log.length+1))) col from by
    have h1:=HB.out.below hb
    have h2:=h1.n.stm hi9 0
    rw[HE.out]
    exact h1.trans (h2.trans (h2.n.stn hi9 (s.log.length+1))))
   have HN3:=ħ fun W (hb:Below (wr.setCell ⟨p,35+i,none⟩ (.int .i64 0)).heap.size (wr.setCell ⟨p,35+i,none⟩ (.int .i64 0)) W)=>(show NB w col p v j l f (ldK s (i+1)) un outs (W.setCell ⟨p,26+i,none⟩ (.int .i64 (s.log.length+1))) col from by
    have h1:=HA.out.below hb
    rw[HE.out]
    exact h1.trans (h1.n.stn hi9 (s.log.length+1)))
   have HC1:=ħ (H17.out wr.drew col _ (HB.out.n.below (Below.refl _ _).drew) rfl)
   have HC2:=ħ (H17.out (wr.setCell ⟨p,35+i,none⟩ (.int .i64 0)).drew col _ (HA.out.n.below (Below.refl _ _).drew) rfl)
   have y1:=HB.out.n.nx hi9
   have y2:=HB.out.n.mt hi9
   obtain ⟨c0,c1,-⟩:=HB.out.n.x
   go_upto_region 4 with (fail)
   have hw1:IntKind.i64.wrap ((s.log.length:Int)+1)=(s.log.length:Int)+1:=IntWalk.i64_in _ (by omega)
   go_region_with (first
    | (go_at_call 17;((with_reducible refine HC1.out.mono ?_);rintro e w5 ⟨rfl,b5⟩;have k0:=Nat.lt_of_lt_of_le c0 b5.size;have k1:∀ n,w5.frozen? ⟨p,n,none⟩=false:=fun n=>(b5.frozen (p:=⟨p,n,none⟩) c0).trans (c1 n);have z1:=(b5.cell (p:=⟨p,26+i,none⟩) c0).trans y1;have z2:=(b5.cell (p:=⟨p,35+i,none⟩) c0).trans y2))
    | (go_at_call 17;((with_reducible refine HC2.out.mono ?_);rintro e w5 ⟨rfl,b5⟩;have k0:=Nat.lt_of_lt_of_le c0 b5.size)))
   all_goals
    go_wp2_with fail
    first
    | exact ⟨⟨i+1,hi9,by go_num,HN1.out _ ((Below.refl _ _).drew.trans b5)⟩,by simp[intOf];omega⟩
    | exact ⟨⟨i+1,hi9,by go_num,HN2.out _ ((Below.refl _ _).drew.trans b5)⟩,by simp[intOf];omega⟩
    | exact ⟨⟨i+1,hi9,by go_num,HN3.out _ ((Below.refl _ _).drew.trans b5)⟩,by simp[intOf];omega⟩
  ·have hlt:¬ (i:Int)<9:=by omega
   obtain rfl:i=9:=by omega
   have hb0:=HB.out
   rw[ldK9 HL9.out] at hb0
   have HB0:=ħ hb0
   have HW0:=ħ HW.out.lead0
   have HT0:=ħ (show 1≤s.lead0.term from ht)
   have htm:s.lead0.term≤MT:=by have:=HW0.out.tk;unfold MT;omega
   have HW1:=ħ (HW0.out.add (kind:=1) (body:=[]) (by omega) HT0.out htm ⟨by decide,by decide⟩ ⟨by simp,fun x hx=>by cases hx⟩)
   have HT1:=ħ (show 1≤(s.lead0.add 1 []).term by rw[add_eq];exact HT0.out)
   have HW2:=ħ (HW1.out.adv (by omega) HT1.out (by rw[add_eq];exact htm))
   have HA2:=ħ (HW2.out.appOk (by omega) (fun j hj=>by
    rw[(adv_same _).2.2.1,add_eq]
    show 1≤gd (List.replicate 9 ((s.log.length:Int)+1)) j
    rw[gd_rep2 hj];omega))
   have H73:=ħ (show Calls Tryz.prog 73 #[.pointer (some ⟨p,0,none⟩),.int .i64 1,.slice none 0 0] wr (WrPost wr col p v j l f (s.lead0.add 1 []) outs) from add_w wr col p v j l f _ un outs HB0.out.n HW0.out (by omega) HT0.out 1 ⟨by decide,by decide⟩ none 0 [] (fun _=>False) Reads.none_ (fun _ h=>h.elim) ⟨by simp,fun x hx=>by cases hx⟩)
   have H74:=ħ fun W cr un' (x:NS W cr p v j l f (s.lead0.add 1 []) un' outs)=>advance74 W cr p v j l f _ un' outs x HW1.out (by omega) HT1.out
   have H46:=ħ fun W cr un' (x:NS W cr p v j l f (s.lead0.add 1 []).adv un' outs)=>sendAppends46 W cr p v j l f _ un' outs x HA2.out ho
   have HLE:=ħ (show s.lead now=({ ((s.lead0).add 1 []).adv with hb:=now },((s.lead0).add 1 []).adv.apps) from rfl)
   clear hb0 HB htm
   generalize s.lead0.add 1 []=s1 at *
   generalize s1.adv=s2 at *
   go_upto_region 7 with (first
    | (go_at_call 73;((with_reducible refine H73.out.mono ?_);rintro e w5 ⟨rfl,un5,c5,hb5⟩;have N5:=ħ (HB0.out.trans hb5);clear hb5))
    | (go_at_call 74;((with_reducible refine (H74.out w5 c5 un5 N5.out.n).mono ?_);rintro e w6 ⟨rfl,un6,c6,hb6⟩;have N6:=ħ (N5.out.trans hb6);clear hb6)))
   go_upto_region 8 with (go_at_call 46;((with_reducible refine (H46.out w6 c6 un6 N6.out.n).mono ?_);rintro e w7 ⟨rfl,c7,hb7⟩;have N7:=ħ (N6.out.trans hb7);clear hb7))
   have N8:=ħ (N7.out.trans (N7.out.n.st15 now))
   obtain ⟨c0,c1,x0,x1,x2,x3,x4,x5,x10,x11,x12,x13,x14,x15,x44⟩:=N7.out.n.x
   clear x0 x1 x2 x3 x4 x5 x10 x11 x12 x13 x14 x44
   go_wp2_with fail
   refine bodyPost_end (v:=.tuple #[]) (by simp[results,Tryz.results80,go_sem]) rfl ⟨rfl,un6,?_⟩
   rw[HLE.out]
   exact N8.out.done
end
end Go.Proofs.YtdfobfjpkjddpaaGreat
