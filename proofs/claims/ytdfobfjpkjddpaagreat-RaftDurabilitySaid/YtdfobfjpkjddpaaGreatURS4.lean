import Derived.Test.YtdfobfjpkjddpaaGreatUGS
import Derived.Test.YtdfobfjpkjddpaaGreatUG6
set_option linter.unusedVariables false
set_option linter.unusedSimpArgs false
set_option maxRecDepth 10000
set_option maxHeartbeats 8000000
namespace Go.Proofs.YtdfobfjpkjddpaaGreat
open Go.RowKit Go.Own Go.Quo Go.Wire Go.Raft
attribute [local irreducible] Go.wpQuiet
theorem durable6 (w:World)(a b:Nat)(ha:a<256)(hb:b<256)(A:Option Addr)(c:Nat)(ss:List TV)(hR:Reads w (fun _=>True) 4 A ss.length (ss.flatMap tvL))(hT:∀ x∈ss,TOk w x) :
 Calls Tryz.prog 6 #[.agg #[.int .u8 (a:Int),.int .u8 (b:Int)],.slice A ss.length c] w fun e w'=>e=.returned (.bool true)∧Below w.heap.size w w':=by
 obtain ⟨n,hn⟩:∃ n,n=a % 5+1:=⟨_,rfl⟩
 obtain ⟨m,hm⟩:∃ m,m=b % (a % 5+1)+1:=⟨_,rfl⟩
 have hn1:1≤n∧n≤5:=by omega
 have hm1:1≤m∧m≤n:=by have:=Nat.mod_lt b (show 0<a % 5+1 by omega);omega
 have H13:=ħ fun W=>begin13 W a b ha hb
 have H7:=ħ fun W=>awake7 W
 have HR:=ħ (hR.old (by decide))
 have HT:=ħ hT
 have H14:=ħ fun W (h:Below w.heap.size w W)=>many14 W _ A c ss ((hR.old (by decide)).below h (fun _ h=>h.2))
 clear hR hT
 rw[←hm,←hn] at H13
 clear hn hm ha hb
 go_enter Tryz.func6,Tryz.ntmps6
 go_upto_region 1 with fail
 have b0:Below w.heap.size w (w.alloc (.cells #[.int .u8 (a:Int),.int .u8 (b:Int)] 40)):=(Below.refl _ _).alloc (Nat.le_refl _) _
 go_upto_region 2 with (go_at_call 13;((with_reducible refine (H13.out _).mono ?_);rintro e w1 ⟨g,cc,fo,rfl,hcs,hfo,hz,hb1⟩;have HL1:=ħ (show LC w m n fo g 0 w1 cc (clN m n) g0 from ⟨hcs,cinv_clN hm1 hn1.2,cw_clN hm1 hn1.2,by simp[clN],fun k hk=>hz k (Nat.lt_of_lt_of_le hk b0.size),b0.trans (hb1.mono b0.size)⟩);have HFO:=ħ hfo;clear hcs hfo hz hb1))
 clear b0
 cases hM:manyB ss with
 | true=>
  rw[hM] at H14
  go_wp2_with (first
   | (go_at_call 7;((with_reducible refine (H7.out w1).mono ?_);rintro e w2 ⟨rfl,b2⟩;have HB2:=ħ (HL1.out.b.trans (b2.mono HL1.out.b.size));clear b2))
   | (go_at_call 14;((with_reducible refine (H14.out _ HB2.out).mono ?_);rintro e w3 ⟨rfl,b3⟩;have HB3:=ħ (HB2.out.trans (b3.mono HB2.out.size));clear b3))
   | (go_at_call 7;((with_reducible refine (H7.out w3).mono ?_);rintro e w4 ⟨rfl,b4⟩;have HB4:=ħ (HB3.out.trans (b4.mono HB3.out.size));clear b4)))
  go_ret
  exact ⟨rfl,HB4.out⟩
 | false=>
  rw[hM] at H14
  obtain ⟨hs1,hs2⟩:=manyB_no hM
  have HS2:=ħ hs2
  have HMN:=ħ hM
  clear hs2 hM
  go_upto_region 4 with (first
   | (go_at_call 7;((with_reducible refine (H7.out w1).mono ?_);rintro e w2 ⟨rfl,b2⟩;have HL2:=ħ (HL1.out.below b2);clear b2))
   | (go_at_call 14;((with_reducible refine (H14.out _ HL2.out.b).mono ?_);rintro e w3 ⟨rfl,b3⟩;have HL3:=ħ (HL2.out.below b3);clear b3)))
  go_wp2_with fail
  clear H7 H13 H14 HL1 HL2
  have HPl:=ħ fun (h:0<ss.length)=>HR.out.plain (by omega)
  go_loopw [42] (fun vi wr=>∃ (i:Nat) (cc:Nat→Nat) (C:Cl) (G:Gh),i≤ss.length∧vi=.int .i64 (i:Int)∧LC w m n fo g i wr cc C G) (fun vi _=>ss.length - (intOf vi).toNat)
  case atStart=>exact ⟨0,_,_,_,Nat.zero_le _,rfl,HL3.out⟩
  case round=>
   obtain ⟨i,cc,C,G,hi,rfl,hl5⟩:=hrel
   have HL5:=ħ hl5
   clear hl5 HL3
   by_cases hin:i=ss.length
   ·have hlt:¬ ((i:Int)<(ss.length:Int)):=by omega
    clear hin
    go_wp2_with fail
    go_ret
    exact ⟨rfl,HL5.out.b⟩
   ·have hlt:(i:Int)<(ss.length:Int):=by omega
    have hil:i<ss.length:=by omega
    have HI:=ħ (show i≤300 by have:=(manyB_no HMN.out).1;omega)
    obtain ⟨⟨kd,wh,nn,xA,xc,xb⟩,hx⟩:∃ x,ss[i]?=some x:=⟨_,List.getElem?_eq_getElem hil⟩
    have HX:=ħ (And.intro (HT.out _ (List.mem_of_getElem? hx)) (HS2.out _ (List.mem_of_getElem? hx)))
    have hkd:kd<256:=HX.out.1.k.1
    have hwh:wh<256:=HX.out.1.k.2.1
    have hri:=HR.out.below HL5.out.b (fun _ h=>h.2)
    obtain ⟨y0,y1,y2,y3⟩:=tv_all hri hx
    have hix:=fun W=>ix41 (HPl.out (by omega)) c i hil W
    clear hx hri hin
    go_upto_region 7 with fail
    have b6:Below wr.heap.size wr (wr.alloc (.cells (stC kd wh nn xA xb.length xc) 48)):=(Below.refl _ _).alloc (Nat.le_refl _) _
    have g6:Blk (wr.alloc (.cells (stC kd wh nn xA xb.length xc) 48)) wr.heap.size 48 (stC kd wh nn xA xb.length xc):=Blk.new wr 48 _
    obtain ⟨xbx,hxbx⟩:∃ b,b=wr.heap.size:=⟨_,rfl⟩
    rw[←hxbx] at g6 b6⊢
    generalize wr.alloc (.cells (stC kd wh nn xA xb.length xc) 48)=w6 at *
    have HL6:=ħ (HL5.out.below (hxbx ▸ b6))
    have HXB:=ħ (show cc xbx=0 from by
     cases hc:cc xbx with
     | zero=>rfl
     | succ n=>have:=HL5.out.lt xbx (by rw[hc];simp);omega)
    obtain ⟨K,Am,cm,Ap,cp,At,ct,Al,cl,mv,hz⟩:=HL6.out.s
    have hKn:K.length=n:=hz.len.trans HL6.out.l
    obtain ⟨u,hu⟩:∃ u,u=wh % K.length:=⟨_,rfl⟩
    have HU:=ħ hu
    have hul:u<K.length:=by rw[hu];exact Nat.mod_lt _ (by omega)
    have hrm:Int.tmod (wh:Int) (K.length:Int)=(u:Int):=by rw[tmod_nat',hu]
    have hk0i:(0:Int)<(K.length:Int):=by omega
    have hk0n:¬ ((K.length:Int)=0):=by omega
    have hwh':IntKind.i64.wrap (wh:Int)=(wh:Int):=IntWalk.i64_in _ (by omega)
    have z1:w6.cell? ⟨xbx,1,none⟩=some (.int .u8 (wh:Int)):=g6.cell 1
    have z2:=hz.px
    have z3:=g6.lt
    have z4:=hz.b.lt
    have HZ6:=ħ hz
    have HG6:=ħ g6
    have HKN:=ħ hKn
    have HPP:=ħ ((Reads.of_own hz.op).plain (by omega))
    clear y0 y1 y2 y3 hix b6 g6 hz hu HL5 hxbx hKn
    go_quiet (fail)
    have HB7:=ħ (below_drewN (Below.refl w6.heap.size w6) nq)
    generalize w6.drewN nq=w7 at *
    have HL7:=ħ (HL6.out.below HB7.out)
    have HZ7:=ħ (HZ6.out.fr (S:=fun _=>False) (Fr.of_below HB7.out) (fun _ _ e=>e))
    have HG7:=ħ (HG6.out.below HB7.out HG6.out.lt)
    clear z1 z2 z3 z4 hrm hk0i hk0n hwh' HZ6 HG6 HL6 HB7
    have qg:=HZ7.out.px
    have hgl:=HZ7.out.b.lt
    go_wp2_with fail
    clear qg hgl
    have hK5:K.length≤5:=by have:=HKN.out;omega
    go_loopw [9,10,60] (fun v9 v10 vk wx=>∃ (k:Nat) (A9:Option Addr) (c9:Nat) (A10:Option Addr) (c10:Nat),k≤K.length∧vk=.int .i64 (k:Int)∧v9=.slice A9 k c9∧v10=.slice A10 k c10∧Below w7.heap.size w7 wx∧wx.ownsRow w7.heap.size 2 1 (.slice A9 k c9) k ((C.nd.take k).map fun s=>.int .i64 s.term)∧wx.ownsRow w7.heap.size 2 1 (.slice A10 k c10) k ((C.nd.take k).map fun s=>.int .i64 s.commit)∧(∀ b,(Value.slice A9 k c9).ownBlock=some b→(Value.slice A10 k c10).ownBlock=some b→False)) (fun _ _ vk _=>K.length - (intOf vk).toNat)
    case atStart=>exact ⟨0,none,0,none,0,Nat.zero_le _,rfl,rfl,rfl,Below.refl _ _,World.ownsRow_nil _ _ _ _,World.ownsRow_nil _ _ _ _,fun b hb=>by cases hb⟩
    case round=>
     obtain ⟨k,A9,c9,A10,c10,hk,rfl,rfl,rfl,hb,h9,h10,hne⟩:=hrel
     have HB:=ħ hb
     have H9:=ħ h9
     have H10:=ħ h10
     have HNE:=ħ hne
     clear hb h9 h10 hne
     by_cases hkn:k=K.length
     ·have hlk:¬ ((k:Int)<(K.length:Int)):=by omega
      have HT9:=ħ (show wr.ownsRow w7.heap.size 2 1 (.slice A9 K.length c9) K.length (C.nd.map fun s=>.int .i64 s.term) from by
       have h:=H9.out
       rw[hkn,List.take_of_length_le (by have:=HZ7.out.len;omega)] at h
       exact h)
      have HT10:=ħ (show wr.ownsRow w7.heap.size 2 1 (.slice A10 K.length c10) K.length (C.nd.map fun s=>.int .i64 s.commit) from by
       have h:=H10.out
       rw[hkn,List.take_of_length_le (by have:=HZ7.out.len;omega)] at h
       exact h)
      rw[hkn] at hlk⊢
      clear H9 H10 HNE hk hkn
      have HLA:=ħ (HL7.out.below HB.out)
      have HB7A:=ħ HB.out
      have HZA:=ħ (HZ7.out.fr (S:=fun _=>False) (Fr.of_below HB.out) (fun _ _ e=>e))
      have HGA:=ħ (HG7.out.below HB.out HG7.out.lt)
      have HLO:=ħ fun k (hk:cc k≠0)=>HZ7.out.lt k hk
      obtain ⟨⟨xp,xv,xj,xl,xf',xcol,xs⟩,hxq⟩:∃ x,K[u]?=some x:=⟨_,List.getElem?_eq_getElem hul⟩
      have HXQ:=ħ hxq
      have HND:=ħ (show C.nd[u]?=some xs from (HZA.out.at hxq).2.1)
      have HWF:=ħ (HL7.out.w.n u xs HND.out).w
      have hln:xs.log.length≤1000000:=by have:=HWF.out.ln;have:=HI.out;omega
      have HLN:=ħ hln
      have hixp:=fun W=>ix51 HPP.out cp u hul W
      have HQ:=ħ fun W (hb:Below wr.heap.size wr W)=>(show W.cell? ⟨g,1,none⟩=some (.slice Ap K.length cp)∧W.cell? ⟨bk Ap,ofs Ap+u,none⟩=some (.pointer (some ⟨xp,0,none⟩))∧g<W.heap.size∧NS W xcol xp xv xj xl xf' xs false [] from by
       have h:=HZA.out.fr (S:=fun _=>False) (Fr.of_below hb) (fun _ _ e=>e)
       obtain ⟨h1,h2,h3⟩:=h.at HXQ.out
       exact ⟨h.px,h1,h.b.lt,h3⟩)
      clear hxq HL7 HZ7 HG7
      obtain ⟨wA,hwA⟩:∃ wA,wA=wr:=⟨_,rfl⟩
      subst hwA
      obtain ⟨ln,hlnn⟩:∃ ln,ln=xs.log.length:=⟨_,rfl⟩
      have HLL:=ħ hlnn
      rw[←hlnn] at hln
      clear hlnn
      go_wp2_with fail
      go_loopw [13,14] (fun va vi wx=>∃ (k:Nat) (A13:Option Addr) (c13:Nat) (es:List EV),k≤ln∧vi=.int .i64 ((k:Int)+1)∧va=.slice A13 es.length c13∧Below wA.heap.size wA wx∧wx.ownsRow wA.heap.size 58 3 (.slice A13 es.length c13) es.length (es.flatMap evL)∧EB wx (fun i=>wA.heap.size≤i∧i<wx.heap.size∧¬ (Value.slice A13 es.length c13).ownBlock=some i) es∧(∀ x∈es,Bytes x.b)∧es.map EV.e=xs.log.take k) (fun _ vi _=>ln+1 - (intOf vi).toNat)
      case atStart=>exact ⟨0,none,0,[],Nat.zero_le _,rfl,rfl,Below.refl _ _,World.ownsRow_nil _ _ _ _,fun x hx=>(by cases hx),fun x hx=>(by cases hx),rfl⟩
      case round=>
       obtain ⟨k,A13,c13,es,hk,rfl,rfl,hb,h13,heb,hey,hem⟩:=hrel
       have HB:=ħ hb
       have H13:=ħ h13
       have HEB:=ħ heb
       have HEY:=ħ hey
       have HEM:=ħ hem
       have hbz:=hb.size
       clear hb h13 heb hey hem
       have HBq:=ħ HB.out
       obtain ⟨q1,q2,q3,hns⟩:=HQ.out _ HBq.out
       have H17:=ħ (show Calls Tryz.prog 17 #[.pointer (some ⟨xp,0,none⟩)] wr fun e w'=>e=.returned (.int .i64 (ln:Int))∧Below wr.heap.size wr w' from by
        have h:=lastIndex17 wr xcol xp xv xj xl xf' xs false [] hns HLN.out
        rw[←HLL.out] at h
        exact h)
       clear hns
       by_cases hkl:k=ln
       ·have hle:¬ ((k:Int)+1≤(ln:Int)):=by omega
        have HMA:=ħ (show es.map EV.e=xs.log from by rw[HEM.out,hkl,List.take_of_length_le (by rw[←HLL.out];omega)])
        clear hkl hk HEM
        go_upto_region 20 with (go_at_call 17;((with_reducible refine H17.out.mono ?_);rintro e w8 ⟨rfl,b8⟩;have HB8:=ħ (HB.out.trans (b8.mono hbz));have H138:=ħ (own_fr H13.out (Fr.of_below (S:=fun _=>False) b8) (fun _ _ e=>e));have HEB8:=ħ (HEB.out.below b8 (fun _ h=>h.2.1));clear b8))
        clear q1 q2 q3 H17 HB H13 HEB hle HBq hbz
        have HL8:=ħ (HLA.out.below HB8.out)
        have g8:=HGA.out.below HB8.out HGA.out.lt
        have z0:=g8.cell 0
        have z1:=g8.cell 1
        have z2:=g8.cell 2
        have z3:=g8.cell 3
        have HG8:=ħ g8
        have H15:=ħ (HL8.out.step HI.out hn1 HFO.out (x:=⟨kd,wh,nn,xA,xc,xb⟩) HX.out.1 (show xb.length≤200 by have h:xb.length≤20:=HX.out.2;omega))
        clear g8
        go_upto_region 22 with (go_at_call 15;((with_reducible refine H15.out.mono ?_);rintro e w9 ⟨rfl,cc9,G9,hl9,hg9,ag9,fr9⟩;have HL9:=ħ hl9;have HA9:=ħ ag9;have HF9:=ħ fr9;clear hl9 hg9 ag9 fr9))
        clear z0 z1 z2 z3 H15 HL8
        have hw78:w7.heap.size≤wA.heap.size:=by have h:=(HT9.out);have:=HB7A.out.size;omega
        have HC0:=ħ fun (k:Nat) (hk:w7.heap.size≤k)=>(show cc k=0 from by
         cases hc:cc k with
         | zero=>rfl
         | succ n=>have:=HLO.out k (by rw[hc];simp);omega)
        have HR9:=ħ (own_fr (own_fr HT9.out (Fr.of_below (S:=fun _=>False) HB8.out) (fun _ _ e=>e)) HF9.out (fun k hk e=>e.1 (HC0.out k (HT9.out.lt k hk).1)))
        have HR10:=ħ (own_fr (own_fr HT10.out (Fr.of_below (S:=fun _=>False) HB8.out) (fun _ _ e=>e)) HF9.out (fun k hk e=>e.1 (HC0.out k (HT10.out.lt k hk).1)))
        have HR13:=ħ (own_fr H138.out HF9.out (fun k hk e=>e.1 (HC0.out k (Nat.le_trans hw78 (H138.out.lt k hk).1))))
        have HEB9:=ħ (HEB8.out.fr HF9.out (fun k hk e=>e.1 (HC0.out k (Nat.le_trans hw78 hk.1))))
        have HGB:=ħ (HG8.out.fr HF9.out (fun e=>e.1 HXB.out))
        have HMON:=ħ (Cl.mon_step C kd wh nn xb)
        have HAG:=ħ fun (h6:kd % 8=6)=>Cl.step_again C xb h6 (who:=wh) (N:=nn) (show C.nd[wh % C.nd.length]?=some xs from by rw[←HZA.out.len,←HU.out];exact HND.out)
        have HXND:=ħ HND.out
        have HWF9:=ħ HWF.out
        have HUU:=ħ (show wh % C.nd.length=u from by rw[←HZA.out.len,←HU.out])
        have HCL:=ħ (show C.nd.length=K.length from HZA.out.len.symm)
        obtain ⟨C9,hC9⟩:∃ C9,C9=C.step kd wh nn xb:=⟨_,rfl⟩
        rw[←hC9] at HL9 HMON HAG
        obtain ⟨K2,Am2,cm2,Ap2,cp2,At2,ct2,Al2,cl2,mv2,hz2⟩:=HL9.out.s
        have hKK:K2.length=K.length:=by have h1:=hz2.len;have h2:=HL9.out.l;have h3:=HKN.out;omega
        have HKK:=ħ hKK
        have HZ9:=ħ hz2
        have HPP2:=ħ ((Reads.of_own hz2.op).plain (by omega))
        have hK25:K2.length≤5:=by omega
        have qg:=hz2.px
        have hgl:=hz2.b.lt
        clear hC9 hz2 HT9 HT10 H138 HEB8 HG8 HA9 HF9 HLA HZA HGA HLO HB8 HQ HND HWF HXQ hKK hw78 HB7A HXB hixp
        go_wp2_with fail
        clear qg hgl
        go_loopw [112] (fun vk wx=>∃ (k:Nat),k≤K2.length∧vk=.int .i64 (k:Int)∧Below w9.heap.size w9 wx) (fun vk _=>K2.length - (intOf vk).toNat)
        case atStart=>exact ⟨0,Nat.zero_le _,rfl,Below.refl _ _⟩
        case round=>
         obtain ⟨k,hk,rfl,hb⟩:=hrel
         have HB:=ħ hb
         clear hb
         by_cases hkn:k=K2.length
         ·have hlk:¬ ((k:Int)<(K2.length:Int)):=by omega
          clear hkn hk
          go_upto_region 28 with fail
          have qk:wr.cell? ⟨xbx,0,none⟩=some (.int .u8 (kd:Int)):=(HGB.out.below HB.out HGB.out.lt).cell 0
          have qx:=(HGB.out.below HB.out HGB.out.lt).lt
          obtain ⟨r8,hr8'⟩:∃ r,r=kd % 8:=⟨_,rfl⟩
          have hr8:Int.tmod (kd:Int) 8=(r8:Int):=by rw[show (8:Int)=((8:Nat):Int) from rfl,tmod_nat',hr8']
          have hr8l:r8<8:=by rw[hr8'];exact Nat.mod_lt _ (by decide)
          have hru:IntKind.u8.wrap (r8:Int)=(r8:Int):=by
           have h:r8=0∨r8=1∨r8=2∨r8=3∨r8=4∨r8=5∨r8=6∨r8=7:=by omega
           rcases h with rfl | rfl | rfl | rfl | rfl | rfl | rfl | rfl <;> rfl
          have HL12:=ħ (HL9.out.below HB.out)
          by_cases h6:r8=6
          ·have ha:=HAG.out (by rw[←hr8'];exact h6)
           rw[HUU.out] at ha
           subst h6
           have hur:u<K2.length:=by have:=HKK.out;omega
           obtain ⟨⟨xp,xv,xj,xl,xf',xcol,ys⟩,hxq⟩:∃ x,K2[u]?=some x:=⟨_,List.getElem?_eq_getElem hur⟩
           have HNS:=ħ fun W (hb:Below wr.heap.size wr W)=>(HZ9.out.fr (S:=fun _=>False) (Fr.of_below (HB.out.trans (hb.mono HB.out.size))) (fun _ _ e=>e)).at hxq
           obtain ⟨qp,hnd,-⟩:=HNS.out _ (Below.refl _ _)
           have hnd:C9.nd[u]?=some ys:=hnd
           have qg:=(HZ9.out.fr (S:=fun _=>False) (Fr.of_below HB.out) (fun _ _ e=>e)).px
           have hgl:=(HZ9.out.fr (S:=fun _=>False) (Fr.of_below HB.out) (fun _ _ e=>e)).b.lt
           rw[ha] at hnd
           injection hnd with hnd
           have hf:ys.term=xs.term∧ys.log=xs.log∧ys.role=1∧ys.ld = -1:=by rw[←hnd];exact ⟨rfl,rfl,rfl,rfl⟩
           have HNN:=ħ fun W (hb:Below wr.heap.size wr W)=>(HNS.out W hb).2.2
           have HYL:=ħ hf.2.1
           have hixp:=fun W=>ix51 HPP2.out cp2 u hur W
           have hes:es.length=ys.log.length:=by rw[hf.2.1,←HMA.out,List.length_map]
           have hel:es.length≤1000000:=by rw[hes,hf.2.1];exact HLN.out
           have H22:=ħ fun W (hb:Below wr.heap.size wr W)=>term22 W xcol xp xv xj xl xf' ys false [] (HNN.out W hb)
           have H21:=ħ fun W (hb:Below wr.heap.size wr W)=>role21 W xcol xp xv xj xl xf' ys false [] (HNN.out W hb)
           have H20:=ħ fun W (hb:Below wr.heap.size wr W)=>leader20 W xcol xp xv xj xl xf' ys false [] (HNN.out W hb)
           have H17:=ħ fun W (hb:Below wr.heap.size wr W)=>lastIndex17 W xcol xp xv xj xl xf' ys false [] (HNN.out W hb) (by rw[←hes];exact hel)
           rw[hf.1] at H22
           rw[hf.2.2.1] at H21
           rw[hf.2.2.2] at H20
           rw[←hes] at H17
           have HK:=ħ fun W (hb:Below wr.heap.size wr W)=>(show W.cell? ⟨bk A9,ofs A9+u,none⟩=some (.int .i64 xs.term) from by
            have h9:=Reads.of_own (own_fr HR9.out (Fr.of_below (S:=fun _=>False) (HB.out.trans (hb.mono HB.out.size))) (fun _ _ e=>e))
            rw[h9.cell2 u (by omega) (by omega),List.getElem?_map,HXND.out]
            rfl)
           have hP9:=fun W=>ixL64 ((Reads.of_own HR9.out).plain (by omega)) c9 u hul W
           obtain ⟨tx,htx⟩:∃ t,t=xs.term:=⟨_,rfl⟩
           rw[←htx] at HK H22
           have HES:=ħ hes
           clear ha hxq hnd hf hes htx HNS hr8'
           go_upto_region 30 with fail
           clear qk qx qg hgl qp hixp
           refine wp_region_quiet (C:=fun w'=>Below wr.heap.size wr w') (by kernel_rfl) (by kernel_rfl) ((Below.refl _ _).drew) ?_
           repeat (refine wpQuiet_step (fun K hK=>?_);have HKK:=ħ hK;clear hK;first | (refine ite_no ?_ ?_;(focus (clear HKK K;first | (go_simp;done) | (simp[Region.wanted,yielded,undef];done)));go_simp;refine HKK.out _ ?_;clear HKK K) | (refine ite_yes ?_ ?_;(focus (clear HKK K;first | (go_simp;done) | (simp[Region.wanted,yielded,undef];done)));apply Exists.intro;refine ⟨fun wq hq=>?_,?_⟩;(focus ((have y0:=HK.out _ hq);go_simp;(first | done | rfl | ((refine (H22.out _ hq).mono ?_);rintro e w3 ⟨rfl,rfl⟩;exact ⟨rfl,hq⟩) | ((refine (H21.out _ hq).mono ?_);rintro e w3 ⟨rfl,rfl⟩;exact ⟨rfl,hq⟩) | ((refine (H20.out _ hq).mono ?_);rintro e w3 ⟨rfl,rfl⟩;exact ⟨rfl,hq⟩) | ((refine (H17.out _ hq).mono ?_);rintro e w3 ⟨rfl,hh⟩;exact ⟨rfl,hq.trans (hh.mono hq.size)⟩))));go_simp;refine HKK.out _ ?_;clear HKK K))
           refine wpQuiet_nil ?_
           intro w12 hw12
           have HW12:=ħ hw12
           clear hw12 hP9 H22 H21 H20 H17 HK
           obtain ⟨wB,hwB⟩:∃ wB,wB=wr:=⟨_,rfl⟩
           subst hwB
           have hPE:=ħ fun (h:0<es.length)=>((Reads.of_own HR13.out).plain (by omega))
           go_wp2_with fail
           go_loopw [182] (fun vk wx=>∃ (k:Nat),k≤es.length∧vk=.int .i64 (k:Int)∧Below wB.heap.size wB wx) (fun vk _=>es.length - (intOf vk).toNat)
           case atStart=>exact ⟨0,Nat.zero_le _,rfl,HW12.out⟩
           case round=>
            obtain ⟨k,hk,rfl,hb⟩:=hrel
            have HBB:=ħ hb
            clear hb
            by_cases hkn:k=es.length
            ·have hlk:¬ ((k:Int)<(es.length:Int)):=by omega
             clear hkn hk
             go_wp2_with fail
             exact ⟨⟨i+1,cc9,C9,G9,by omega,by go_num,HL12.out.below HBB.out⟩,by simp[intOf];omega⟩
            ·have hlk:(k:Int)<(es.length:Int):=by omega
             have hkl:k<es.length:=by omega
             obtain ⟨⟨yt,yk,yA,yc,yb⟩,hye⟩:∃ y,es[k]?=some y:=⟨_,List.getElem?_eq_getElem hkl⟩
             have HYE:=ħ hye
             have HYB:=ħ (HEY.out _ (List.mem_of_getElem? hye))
             have hlg:ys.log[k]?=some ⟨yt,yk,yb⟩:=by rw[HYL.out,←HMA.out,List.getElem?_map,hye];rfl
             have HWW:=ħ fun W (hb:Below wr.heap.size wr W)=>(show Below wB.heap.size wB W from HBB.out.trans (hb.mono HBB.out.size))
             have HK:=ħ fun W (hb:Below wr.heap.size wr W)=>(show (W.cell? ⟨bk A13,ofs A13+k * 3,none⟩=some (.int .i64 yt)∧W.cell? ⟨bk A13,ofs A13+k * 3+1,none⟩=some (.int .i64 yk)∧W.cell? ⟨bk A13,ofs A13+k * 3+2,none⟩=some (.slice yA yb.length yc))∧Reads W (fun i=>i<w9.heap.size) 1 yA yb.length (bys yb) from by
              have hb2:Below w9.heap.size w9 W:=HB.out.trans ((HWW.out W hb).mono HB.out.size)
              have ho:=Reads.of_own (own_fr HR13.out (Fr.of_below (S:=fun _=>False) hb2) (fun _ _ e=>e))
              have he:EB W (fun i=>i<w9.heap.size) es:=((HEB9.out.old).below hb2 (fun _ h=>h.2)).more (fun _ h=>h.2)
              exact ⟨ES.at_ (B:=fun _=>True) ⟨ho.more (fun _ _=>trivial),he.more (fun _ _=>trivial)⟩ HYE.out,he _ (List.mem_of_getElem? HYE.out)⟩)
             have H18:=ħ fun W (hb:Below wr.heap.size wr W)=>(show Calls Tryz.prog 18 #[.pointer (some ⟨xp,0,none⟩),.int .i64 ((k:Int)+1)] W fun e w'=>∃ A c,e=.returned (.tuple #[evV yt yk A yb.length c,.bool true])∧Reads w' (W.heap.size≤·) 1 A yb.length (bys yb)∧Below W.heap.size W w' from entry18_yes W xcol xp xv xj xl xf' ys false [] (HNN.out W (HWW.out W hb)) k ⟨yt,yk,yb⟩ (by rw[←HES.out];exact hel) hlg (by rw[HYL.out];exact HWF9.out.bd.sm))
             obtain ⟨⟨y0,y1,y2⟩,-⟩:=HK.out _ (Below.refl _ _)
             have hixe:=fun W=>ixE (hPE.out (by omega)) c13 k hkl W
             have hwk:IntKind.i64.wrap ((k:Int)+1)=(k:Int)+1:=IntWalk.i64_in _ (by omega)
             clear hye hlg hkn
             go_upto_region 35 with fail
             have b8:Below wr.heap.size wr (wr.alloc (.cells (evC yt yk yA yb.length yc) 58)):=(Below.refl _ _).alloc (Nat.le_refl _) _
             have g8:Blk (wr.alloc (.cells (evC yt yk yA yb.length yc) 58)) wr.heap.size 58 (evC yt yk yA yb.length yc):=Blk.new wr 58 _
             generalize wr.alloc (.cells (evC yt yk yA yb.length yc) 58)=w8x at *
             have HB8x:=ħ b8
             have HG8x:=ħ g8
             clear b8 g8 y0 y1 y2 hixe
             go_upto_region 36 with (go_at_call 18;((with_reducible refine (H18.out w8x HB8x.out).mono ?_);rintro e w9x ⟨A9e,c9e,rfl,r9,b9⟩;have HR9x:=ħ r9;have HB9x:=ħ b9;clear r9 b9))
             have b10:Below w8x.heap.size w8x (w9x.alloc (.cells (evC yt yk A9e yb.length c9e) 58)):=HB9x.out.alloc HB9x.out.size _
             have g10:Blk (w9x.alloc (.cells (evC yt yk A9e yb.length c9e) 58)) w9x.heap.size 58 (evC yt yk A9e yb.length c9e):=Blk.new w9x 58 _
             have r10:=(HR9x.out.alloc (.cells (evC yt yk A9e yb.length c9e) 58))
             generalize w9x.alloc (.cells (evC yt yk A9e yb.length c9e) 58)=w10x at *
             have g8x:=HG8x.out.below b10 HG8x.out.lt
             have hb10:Below wr.heap.size wr w10x:=HB8x.out.trans (b10.mono HB8x.out.size)
             have HB10x:=ħ hb10
             have H19:=ħ (alike19 _ _ yt yk A9e c9e yb yt yk yA yc yb w10x r10 (HK.out _ hb10).2 HYB.out HYB.out true (decide_eq_true rfl))
             have x0:=g10.lt
             have x3:w10x.cell? ⟨w9x.heap.size,0,none⟩=some (.int .i64 yt):=g10.cell 0
             have x4:w10x.cell? ⟨w9x.heap.size,1,none⟩=some (.int .i64 yk):=g10.cell 1
             have x5:w10x.cell? ⟨w9x.heap.size,2,none⟩=some (.slice A9e yb.length c9e):=g10.cell 2
             have x1:=g8x.lt
             have x6:w10x.cell? ⟨wr.heap.size,0,none⟩=some (.int .i64 yt):=g8x.cell 0
             have x7:w10x.cell? ⟨wr.heap.size,1,none⟩=some (.int .i64 yk):=g8x.cell 1
             have x8:w10x.cell? ⟨wr.heap.size,2,none⟩=some (.slice yA yb.length yc):=g8x.cell 2
             clear b10 g10 r10 g8x hb10
             go_wp2_with (go_at_call 19;((with_reducible refine H19.out.mono ?_);rintro e w11x ⟨rfl,b11⟩;have HB11x:=ħ (HB10x.out.trans (b11.mono HB10x.out.size));clear b11))
             exact ⟨⟨k+1,by omega,by go_num,HWW.out _ HB11x.out⟩,by simp[intOf];omega⟩
          ·have h6i:¬ ((r8:Int)=6):=by omega
           go_wp2_with fail
           exact ⟨⟨i+1,cc9,C9,G9,by omega,by go_num,HL12.out⟩,by simp[intOf];omega⟩
         ·have hlk:(k:Int)<(K2.length:Int):=by omega
          have hkl:k<K2.length:=by omega
          have hkK:k<K.length:=by have:=HKK.out;omega
          obtain ⟨⟨xp,xv,xj,xl,xf',xcol,ys⟩,hxq⟩:∃ x,K2[k]?=some x:=⟨_,List.getElem?_eq_getElem hkl⟩
          have HNS:=ħ fun W (hb:Below wr.heap.size wr W)=>(HZ9.out.fr (S:=fun _=>False) (Fr.of_below (HB.out.trans (hb.mono HB.out.size))) (fun _ _ e=>e)).at hxq
          obtain ⟨qp,hnd,-⟩:=HNS.out _ (Below.refl _ _)
          have hnd:C9.nd[k]?=some ys:=hnd
          obtain ⟨x0,hx0⟩:∃ x,C.nd[k]?=some x:=⟨_,List.getElem?_eq_getElem (show k<C.nd.length by have:=HCL.out;omega)⟩
          obtain ⟨y,hy,hty,hcy⟩:=HMON.out k x0 hx0
          rw[hnd] at hy
          injection hy with hy
          subst hy
          have hixp:=fun W=>ix51 HPP2.out cp2 k hkl W
          have H22:=ħ fun W (hb:Below wr.heap.size wr W)=>term22 W xcol xp xv xj xl xf' ys false [] (HNS.out W hb).2.2
          have H16:=ħ fun W (hb:Below wr.heap.size wr W)=>commit16 W xcol xp xv xj xl xf' ys false [] (HNS.out W hb).2.2
          have HK:=ħ fun W (hb:Below wr.heap.size wr W)=>(show W.cell? ⟨bk A9,ofs A9+k,none⟩=some (.int .i64 x0.term)∧W.cell? ⟨bk A10,ofs A10+k,none⟩=some (.int .i64 x0.commit)∧W.cell? ⟨xbx,0,none⟩=some (.int .u8 (kd:Int))∧xbx<W.heap.size from by
           have hb2:=HB.out.trans (hb.mono HB.out.size)
           have h9:=Reads.of_own (own_fr HR9.out (Fr.of_below (S:=fun _=>False) hb2) (fun _ _ e=>e))
           have h10:=Reads.of_own (own_fr HR10.out (Fr.of_below (S:=fun _=>False) hb2) (fun _ _ e=>e))
           have hg:=HGB.out.below hb2 HGB.out.lt
           exact ⟨by rw[h9.cell2 k (by omega) (by omega),List.getElem?_map,hx0];rfl,by rw[h10.cell2 k (by omega) (by omega),List.getElem?_map,hx0];rfl,hg.cell 0,hg.lt⟩)
          have hP9:=fun W=>ixL64 ((Reads.of_own HR9.out).plain (by omega)) c9 k hkK W
          have hP10:=fun W=>ixL64 ((Reads.of_own HR10.out).plain (by omega)) c10 k hkK W
          obtain ⟨tx,htx⟩:∃ t,t=x0.term:=⟨_,rfl⟩
          obtain ⟨ty,htyy⟩:∃ t,t=ys.term:=⟨_,rfl⟩
          obtain ⟨cx,hcx⟩:∃ t,t=x0.commit:=⟨_,rfl⟩
          obtain ⟨cy,hcyy⟩:∃ t,t=ys.commit:=⟨_,rfl⟩
          rw[←htx,←hcx] at HK
          rw[←htyy] at H22
          rw[←hcyy] at H16
          rw[←htx,←htyy] at hty
          rw[←hcx,←hcyy] at hcy
          have htlt:¬ (ty<tx):=by omega
          have HCY:=ħ hcy
          clear hxq hnd hx0 hty hcy htx htyy hcx hcyy hkn
          go_upto_region 25 with fail
          clear qp hixp
          by_cases hcc:cy<cx
          ·obtain ⟨h6,hku⟩:kd % 8=6∧k=u:=by
            rcases HCY.out with e | e
            ·omega
            ·exact ⟨e.1,by rw[e.2,HUU.out]⟩
           have hr8:Int.tmod (kd:Int) 8=6:=by rw[show (8:Int)=((8:Nat):Int) from rfl,tmod_nat',h6];rfl
           subst hku
           refine wp_region_quiet (C:=fun w'=>Below wr.heap.size wr w') (by kernel_rfl) (by kernel_rfl) ((Below.refl _ _).drew) ?_
           repeat (refine wpQuiet_step (fun K hK=>?_);have HKK:=ħ hK;clear hK;first | (refine ite_no ?_ ?_;(focus (clear HKK K;first | (go_simp;done) | (simp[Region.wanted,yielded,undef];done)));go_simp;refine HKK.out _ ?_;clear HKK K) | (refine ite_yes ?_ ?_;(focus (clear HKK K;first | (go_simp;done) | (simp[Region.wanted,yielded,undef];done)));apply Exists.intro;refine ⟨fun wq hq=>?_,?_⟩;(focus ((obtain ⟨y0,y1,y2,y3⟩:=HK.out _ hq);go_simp;(first | done | rfl | ((refine (H22.out _ hq).mono ?_);rintro e w3 ⟨rfl,rfl⟩;exact ⟨rfl,hq⟩) | ((refine (H16.out _ hq).mono ?_);rintro e w3 ⟨rfl,rfl⟩;exact ⟨rfl,hq⟩))));go_simp;refine HKK.out _ ?_;clear HKK K))
           refine wpQuiet_nil ?_
           intro w12 hw12
           have HW12:=ħ (HB.out.trans (hw12.mono HB.out.size))
           clear hw12
           go_wp2_with fail
           exact ⟨⟨k+1,by omega,by go_num,HW12.out⟩,by simp[intOf];omega⟩
          ·skip
           refine wp_region_quiet (C:=fun w'=>Below wr.heap.size wr w') (by kernel_rfl) (by kernel_rfl) ((Below.refl _ _).drew) ?_
           repeat (refine wpQuiet_step (fun K hK=>?_);have HKK:=ħ hK;clear hK;first | (refine ite_no ?_ ?_;(focus (clear HKK K;first | (go_simp;done) | (simp[Region.wanted,yielded,undef];done)));go_simp;refine HKK.out _ ?_;clear HKK K) | (refine ite_yes ?_ ?_;(focus (clear HKK K;first | (go_simp;done) | (simp[Region.wanted,yielded,undef];done)));apply Exists.intro;refine ⟨fun wq hq=>?_,?_⟩;(focus ((obtain ⟨y0,y1,y2,y3⟩:=HK.out _ hq);go_simp;(first | done | rfl | ((refine (H22.out _ hq).mono ?_);rintro e w3 ⟨rfl,rfl⟩;exact ⟨rfl,hq⟩) | ((refine (H16.out _ hq).mono ?_);rintro e w3 ⟨rfl,rfl⟩;exact ⟨rfl,hq⟩))));go_simp;refine HKK.out _ ?_;clear HKK K))
           refine wpQuiet_nil ?_
           intro w12 hw12
           have HW12:=ħ (HB.out.trans (hw12.mono HB.out.size))
           clear hw12
           go_wp2_with fail
           exact ⟨⟨k+1,by omega,by go_num,HW12.out⟩,by simp[intOf];omega⟩
       ·have hle:(k:Int)+1≤(ln:Int):=by omega
        have hkx:k<xs.log.length:=by have:=HLL.out;omega
        obtain ⟨⟨et,ek,eb⟩,hxe⟩:∃ x,xs.log[k]?=some x:=⟨_,List.getElem?_eq_getElem hkx⟩
        have HXE:=ħ (show xs.log.take (k+1)=xs.log.take k ++ [⟨et,ek,eb⟩] from by rw[List.take_add_one,hxe];rfl)
        have HEYk:=ħ (HWF.out.bd.sm _ (List.mem_of_getElem? hxe))
        have HBk:=ħ fun W (hb:Below wr.heap.size wr W)=>(show Below wA.heap.size wA W from HB.out.trans (hb.mono hbz))
        have H18:=ħ fun W (hb:Below wr.heap.size wr W)=>(show Calls Tryz.prog 18 #[.pointer (some ⟨xp,0,none⟩),.int .i64 ((k:Int)+1)] W fun e w'=>∃ A c,e=.returned (.tuple #[evV et ek A eb.length c,.bool true])∧Reads w' (W.heap.size≤·) 1 A eb.length (bys eb)∧Below W.heap.size W w' from entry18_yes W xcol xp xv xj xl xf' xs false [] (HQ.out W (HBk.out W hb)).2.2.2 k ⟨et,ek,eb⟩ HLN.out hxe HWF.out.bd.sm)
        have hlen:es.length=k:=by
         have h:=congrArg List.length HEM.out
         rw[List.length_map,List.length_take] at h
         omega
        have HLEN:=ħ hlen
        have hw2:IntKind.i64.wrap ((k:Int)+1+1)=((k+1:Nat):Int)+1:=by rw[IntWalk.i64_in _ (by omega)];omega
        clear hxe hkx hlen
        go_upto_region 18 with (go_at_call 17;((with_reducible refine H17.out.mono ?_);rintro e w8 ⟨rfl,b8⟩;have HB8:=ħ b8;clear b8))
        clear q1 q2 q3
        obtain ⟨q1,q2,q3,-⟩:=HQ.out _ (HBk.out _ HB8.out)
        go_upto_region 19 with (go_at_call 18;((with_reducible refine (H18.out w8 HB8.out).mono ?_);rintro e w9 ⟨A9e,c9e,rfl,r9,b9⟩;have HR9:=ħ r9;have HB9:=ħ b9;clear r9 b9))
        have b9:Below wr.heap.size wr w9:=HB8.out.trans (HB9.out.mono HB8.out.size)
        have hs9:=b9.size
        have b10:Below wr.heap.size wr (w9.alloc (.cells (evC et ek A9e eb.length c9e) 58)):=b9.alloc hs9 _
        have g10:Blk (w9.alloc (.cells (evC et ek A9e eb.length c9e) 58)) w9.heap.size 58 (evC et ek A9e eb.length c9e):=Blk.new w9 58 _
        have r10:=(HR9.out.alloc (.cells (evC et ek A9e eb.length c9e) 58))
        generalize w9.alloc (.cells (evC et ek A9e eb.length c9e) 58)=w10 at *
        obtain ⟨x0,x1,x2⟩:=g10.facts
        have x3:w10.cell? ⟨w9.heap.size,0,none⟩=some (.int .i64 et):=g10.cell 0
        have x4:w10.cell? ⟨w9.heap.size,1,none⟩=some (.int .i64 ek):=g10.cell 1
        have x5:w10.cell? ⟨w9.heap.size,2,none⟩=some (.slice A9e eb.length c9e):=g10.cell 2
        have HB10:=ħ (HBk.out _ b10)
        have HO10:=ħ (own_fr H13.out (Fr.of_below (S:=fun _=>False) b10) (fun _ _ e=>e))
        have HE10:=ħ (show EB w10 (fun i=>wA.heap.size≤i∧i<w10.heap.size∧¬ (Value.slice A13 es.length c13).ownBlock=some i) es from (HEB.out.below b10 (fun _ h=>h.2.1)).more (fun i hi=>⟨hi.1,Nat.lt_of_lt_of_le hi.2.1 b10.size,hi.2.2⟩))
        have HN10:=ħ (show Reads w10 (fun i=>wA.heap.size≤i∧i<w10.heap.size∧¬ (Value.slice A13 es.length c13).ownBlock=some i) 1 A9e eb.length (bys eb) from (r10.old (by decide)).more (fun i hi=>⟨by have h1:=hi.1;have h2:=HB8.out.size;omega,hi.2,fun e=>by have h1:=hi.1;have h2:=HB8.out.size;have h3:=(H13.out.lt i e).2;omega⟩))
        have hs10:=HB10.out.size
        clear x1 b9 hs9 b10 g10 r10 q1 q2 q3 H17 H18 HR9 HB9
        go_wp2_with (at_builtin;refine wpList_append_any _ rfl _ _ _ rfl wA.heap.size 58 _ 3 40 Tryz.underlying45 info58 rfl (by omega) (.slice A13 es.length c13) es.length (es.flatMap evL) rfl (by exact own_fr HO10.out (Fr.of_below (S:=fun _=>False) ((Below.refl _ _).alloc (Nat.le_refl _) _)) (fun _ _ e=>e)) (fun _=>True) (some ⟨w10.heap.size,0,none⟩) 1 1 [.int .i64 et,.int .i64 ek,.slice A9e eb.length c9e] rfl (by exact ((Reads.newS w10 [.int .i64 et,.int .i64 ek,.slice A9e eb.length c9e] 58 (0,0) 1 3 rfl _ rfl).more (fun _ _=>trivial))) (by intro u hu;simp at hu;rcases hu with rfl | rfl | rfl <;> rfl) (by simp only[maxLen];have:=HLEN.out;omega) (by have:=HLEN.out;omega) (by simp;omega) ?_;intro A11 c11 w11 hown hgr hat;have HO11:=ħ hown;have HB11:=ħ (Below.grown (HB10.out.alloc hs10 (.cells (evC et ek A9e eb.length c9e) 58)) hgr (by simp;omega) (fun j hj=>(HO10.out.lt j hj).1));have HAT:=ħ hat;have HF11:=ħ (((Fr.refl (fun b=>(Value.slice A13 es.length c13).ownBlock=some b) w10).alloc (.cells (evC et ek A9e eb.length c9e) 58)).grown hgr (fun b hb=>.inl hb));clear hown hgr hat)
        have hll:(es ++ [(⟨et,ek,A9e,c9e,eb⟩:EV)]).length=es.length+1:=by simp
        have HB12:∀ y:EV,Reads w10 (fun i=>wA.heap.size≤i∧i<w10.heap.size∧¬ (Value.slice A13 es.length c13).ownBlock=some i) 1 y.A y.b.length (bys y.b)→Reads w11 (fun i=>wA.heap.size≤i∧i<w11.heap.size∧¬ (Value.slice A11 (es ++ [(⟨et,ek,A9e,c9e,eb⟩:EV)]).length c11).ownBlock=some i) 1 y.A y.b.length (bys y.b):=fun y hy=>(hy.fr HF11.out (fun i hi=>hi.2.2)).more (fun i hi=>⟨hi.1,Nat.lt_of_lt_of_le hi.2.1 HF11.out.size,fun e=>by
         rw[hll] at e
         rcases HAT.out with e2 | e2
         ·exact hi.2.2 (e2 ▸ e)
         ·rw[e] at e2;injection e2 with e2;have:=hi.2.1;simp at e2;omega⟩)
        exact ⟨⟨k+1,A11,c11,es ++ [⟨et,ek,A9e,c9e,eb⟩],by omega,by go_num,by rw[hll],HB11.out,by rw[hll,List.flatMap_append,List.flatMap_cons,List.flatMap_nil,List.append_nil];exact HO11.out,fun y hy=>(by
         rcases List.mem_append.1 hy with e | e
         ·exact HB12 y (HE10.out y e)
         ·rw[List.mem_singleton] at e;subst e;exact HB12 _ HN10.out),fun y hy=>(by
         rcases List.mem_append.1 hy with e | e
         ·exact HEY.out y e
         ·rw[List.mem_singleton] at e;subst e;exact HEYk.out.2),by rw[List.map_append,HEM.out,HXE.out];rfl⟩,by simp[intOf];omega⟩
     ·have hlk:(k:Int)<(K.length:Int):=by omega
      have hkl:k<K.length:=by omega
      obtain ⟨⟨xp,xv,xj,xl,xf',xcol,xs⟩,hxq⟩:∃ x,K[k]?=some x:=⟨_,List.getElem?_eq_getElem hkl⟩
      have HZx:=HZ7.out.fr (S:=fun _=>False) (Fr.of_below HB.out) (fun _ _ e=>e)
      obtain ⟨qp,hnd,hns⟩:=HZx.at hxq
      have hnd:C.nd[k]?=some xs:=hnd
      have HTK:=ħ (show C.nd.take (k+1)=C.nd.take k ++ [xs] from by rw[List.take_add_one,hnd];rfl)
      have hixp:=fun W=>ix51 HPP.out cp k hkl W
      have H22:=ħ (term22 wr xcol xp xv xj xl xf' xs false [] hns)
      have H16:=ħ fun W (h:Below w7.heap.size w7 W)=>commit16 W xcol xp xv xj xl xf' xs false [] ((HZ7.out.fr (S:=fun _=>False) (Fr.of_below h) (fun _ _ e=>e)).at hxq).2.2
      have hbs:=HB.out.size
      clear HZx hnd hns hxq
      go_wp2_with (first
       | (go_at_call 22;((with_reducible refine H22.out.mono ?_);rintro e w8 ⟨rfl,rfl⟩))
       | (at_builtin;refine wpList_append_any _ rfl _ _ _ rfl w7.heap.size 2 _ 1 8 Tryz.underlying66 info2 rfl (by omega) (.slice A9 k c9) k ((C.nd.take k).map fun s=>.int .i64 s.term) rfl (by exact own_fr H9.out (Fr.of_below (S:=fun _=>False) ((Below.refl _ _).alloc (Nat.le_refl _) _)) (fun _ _=>id)) (fun _=>True) (some ⟨wr.heap.size,0,none⟩) 1 1 [.int .i64 xs.term] rfl (by exact ((Reads.newS _ [.int .i64 xs.term] 2 (0,0) 1 1 rfl _ rfl).more (fun _ _=>trivial))) (by intro u hu;simp at hu;rcases hu with rfl;rfl) (by simp only[maxLen];omega) (by omega) (by simp;omega) ?_;intro A8 c8 w8 hown hgr hat;have HO8:=ħ hown;have HB8:=ħ (Below.grown (HB.out.alloc hbs _) hgr (by simp;omega) (fun j hj=>(H9.out.lt j hj).1));have H108:=ħ (own_fr H10.out (((Fr.refl (fun b=>(Value.slice A9 k c9).ownBlock=some b) wr).alloc (.cells #[.int .i64 xs.term] 2)).grown hgr (fun b hb=>.inl hb)) (fun b hb e=>HNE.out b e hb));have HN8:=ħ (show ∀ b,(Value.slice A8 (k+1) c8).ownBlock=some b→(Value.slice A10 k c10).ownBlock=some b→False from fun b h1 h2=>by (rcases hat with e | e;exact HNE.out b (e ▸ h1) h2;(rw[h1] at e;injection e with e;have:=(H10.out.lt b h2).2;simp at e;omega)));have hs8:=HB8.out.size;clear hown hgr hat)
       | (go_at_call 16;((with_reducible refine (H16.out w8 HB8.out).mono ?_);rintro e w9 ⟨rfl,rfl⟩))
       | (at_builtin;refine wpList_append_any _ rfl _ _ _ rfl w7.heap.size 2 _ 1 8 Tryz.underlying66 info2 rfl (by omega) (.slice A10 k c10) k ((C.nd.take k).map fun s=>.int .i64 s.commit) rfl (by exact own_fr H108.out (Fr.of_below (S:=fun _=>False) ((Below.refl _ _).alloc (Nat.le_refl _) _)) (fun _ _=>id)) (fun _=>True) (some ⟨w8.heap.size,0,none⟩) 1 1 [.int .i64 xs.commit] rfl (by exact ((Reads.newS _ [.int .i64 xs.commit] 2 (0,0) 1 1 rfl _ rfl).more (fun _ _=>trivial))) (by intro u hu;simp at hu;rcases hu with rfl;rfl) (by simp only[maxLen];omega) (by omega) (by simp;omega) ?_;intro A12 c12 w12 hown hgr hat;have HO12:=ħ hown;have HB12:=ħ (Below.grown (HB8.out.alloc hs8 _) hgr (by simp;omega) (fun j hj=>(H108.out.lt j hj).1));have H912:=ħ (own_fr HO8.out (((Fr.refl (fun b=>(Value.slice A10 k c10).ownBlock=some b) w8).alloc (.cells #[.int .i64 xs.commit] 2)).grown hgr (fun b hb=>.inl hb)) (fun b hb e=>HN8.out b hb e));have HN12:=ħ (show ∀ b,(Value.slice A8 (k+1) c8).ownBlock=some b→(Value.slice A12 (k+1) c12).ownBlock=some b→False from fun b h1 h2=>by (rcases hat with e | e;exact HN8.out b h1 (e ▸ h2);(rw[h2] at e;injection e with e;have:=(HO8.out.lt b h1).2;simp at e;omega)));clear hown hgr hat))
      exact ⟨⟨k+1,A8,c8,A12,c12,by omega,by go_num,rfl,rfl,HB12.out,by rw[HTK.out,List.map_append];exact H912.out,by rw[HTK.out,List.map_append];exact HO12.out,HN12.out⟩,by simp[intOf];omega⟩
end Go.Proofs.YtdfobfjpkjddpaaGreat
