import Derived.Test.YtdfobfjpkjddpaaGreatUG32
import Derived.Test.YtdfobfjpkjddpaaGreatURP2
set_option linter.unusedVariables false
set_option linter.unusedSimpArgs false
set_option maxRecDepth 10000
set_option maxHeartbeats 8000000
namespace Go.Proofs.YtdfobfjpkjddpaaGreat
open Go.RowKit Go.Own Go.Quo Go.Wire Go.Raft
attribute [local irreducible] Go.wpQuiet
theorem CZ.at {w:World}{cc:Nat→Nat}{g:Nat}{C:Cl}{K:List NQ}{fo:Ms}{Am Ap At Al:Option Addr}{cm cp ct cl:Nat}{mv:List MV}(h:CZ w cc g C K fo Am cm Ap cp At ct Al cl mv){u:Nat}{x:NQ}(hx:K[u]?=some x):w.cell? ⟨bk Ap,ofs Ap+u,none⟩=some (.pointer (some ⟨x.p,0,none⟩))∧C.nd[u]?=some x.s∧NS w x.col x.p x.v x.j x.l x.f x.s false []:=by
 have hu:=(List.getElem?_eq_some_iff.1 hx).1
 refine ⟨?_,?_,(h.n u x hx).1⟩
 ·have h1:=Reads.of_own h.op
  rw[h1.cell2 u (by omega) (by omega),List.getElem?_map,hx]
  rfl
 ·rw[←h.nd,List.getElem?_map,hx];rfl
theorem CZ.len {w:World}{cc:Nat→Nat}{g:Nat}{C:Cl}{K:List NQ}{fo:Ms}{Am Ap At Al:Option Addr}{cm cp ct cl:Nat}{mv:List MV}(h:CZ w cc g C K fo Am cm Ap cp At ct Al cl mv):K.length=C.nd.length:=by
 have h2:=congrArg List.length h.nd
 rwa [List.length_map] at h2
theorem CZ.px {w:World}{cc:Nat→Nat}{g:Nat}{C:Cl}{K:List NQ}{fo:Ms}{Am Ap At Al:Option Addr}{cm cp ct cl:Nat}{mv:List MV}(h:CZ w cc g C K fo Am cm Ap cp At ct Al cl mv):w.cell? ⟨g,1,none⟩=some (.slice Ap K.length cp):=h.b.cell 1
theorem kget_kput (k:Int)(v:Value)(t:Int):∀ kv:List (Int × Value),kget (kput kv k v) t=if t=k then some v else kget kv t
 | []=>by
  by_cases h:t=k
  ·subst h;simp[kput,kget]
  ·have h2:(k == t)=false:=by simpa using fun e=>h e.symm
   simp[kput,kget,h,h2]
 | p :: r=>by
  have ih:=kget_kput k v t r
  unfold kput
  by_cases hp:p.1=k
  ·have hp':(p.1 == k)=true:=by simpa using hp
   rw[if_pos hp']
   by_cases h:t=k
   ·subst h;simp[kget]
   ·have h2:(k == t)=false:=by simpa using fun e=>h e.symm
    have h3:(p.1 == t)=false:=by simpa [hp] using fun e=>h e.symm
    simp[kget,h,h2,h3]
  ·have hp':(p.1 == k)=false:=by simpa using hp
   rw[hp',if_neg (by simp)]
   by_cases h:p.1=t
   ·subst h
    rw[if_neg hp]
    simp[kget]
   ·have h3:(p.1 == t)=false:=by simpa using h
    have e1:∀ l:List (Int × Value),kget (p :: l) t=kget l t:=fun l=>by unfold kget;rw[List.find?_cons,h3]
    rw[e1,e1,ih]
theorem zero3 (w:World):(zeroValue 3).run Tryz.prog w=.ok (.int .i64 0) w:=by kernel_rfl
theorem election5 (w:World)(a b:Nat)(ha:a<256)(hb:b<256)(A:Option Addr)(c:Nat)(ss:List TV)(hR:Reads w (fun _=>True) 4 A ss.length (ss.flatMap tvL))(hT:∀ x∈ss,TOk w x) :
 Calls Tryz.prog 5 #[.agg #[.int .u8 (a:Int),.int .u8 (b:Int)],.slice A ss.length c] w fun e w'=>e=.returned (.bool true)∧Below w.heap.size w w':=by
 obtain ⟨n,hn⟩:∃ n,n=a % 5+1:=⟨_,rfl⟩
 obtain ⟨m,hm⟩:∃ m,m=b % (a % 5+1)+1:=⟨_,rfl⟩
 have hn1:1≤n∧n≤5:=by omega
 have hm1:1≤m∧m≤n:=by have:=Nat.mod_lt b (show 0<a % 5+1 by omega);omega
 have H13:=ħ fun W=>begin13 W a b ha hb
 have H7:=ħ fun W=>awake7 W
 have HR:=ħ (hR.old (by decide))
 have HT:=ħ hT
 have H14:=ħ fun W (h:Below w.heap.size w W)=>many14 W _ A c ss ((hR.old (by decide)).below h (fun _ h=>h.2))
 clear hR hT
 rw[←hm,←hn] at H13
 clear hn hm ha hb
 go_enter Tryz.func5,Tryz.ntmps5
 go_upto_region 1 with fail
 have b0:Below w.heap.size w (w.alloc (.cells #[.int .u8 (a:Int),.int .u8 (b:Int)] 40)):=(Below.refl _ _).alloc (Nat.le_refl _) _
 go_upto_region 2 with (go_at_call 13;((with_reducible refine (H13.out _).mono ?_);rintro e w1 ⟨g,cc,fo,rfl,hcs,hfo,hz,hb1⟩;have HL1:=ħ (show LC w m n fo g 0 w1 cc (clN m n) g0 from ⟨hcs,cinv_clN hm1 hn1.2,cw_clN hm1 hn1.2,by simp[clN],fun k hk=>hz k (Nat.lt_of_lt_of_le hk b0.size),b0.trans (hb1.mono b0.size)⟩);have HFO:=ħ hfo;clear hcs hfo hz hb1))
 clear b0
 cases hM:manyB ss with
 | true=>
  rw[hM] at H14
  go_wp2_with (first
   | (go_at_call 7;((with_reducible refine (H7.out w1).mono ?_);rintro e w2 ⟨rfl,b2⟩;have HB2:=ħ (HL1.out.b.trans (b2.mono HL1.out.b.size));clear b2))
   | (go_at_call 14;((with_reducible refine (H14.out _ HB2.out).mono ?_);rintro e w3 ⟨rfl,b3⟩;have HB3:=ħ (HB2.out.trans (b3.mono HB2.out.size));clear b3))
   | (go_at_call 7;((with_reducible refine (H7.out w3).mono ?_);rintro e w4 ⟨rfl,b4⟩;have HB4:=ħ (HB3.out.trans (b4.mono HB3.out.size));clear b4)))
  go_ret
  exact ⟨rfl,HB4.out⟩
 | false=>
  rw[hM] at H14
  obtain ⟨hs1,hs2⟩:=manyB_no hM
  have HS2:=ħ hs2
  have HMN:=ħ hM
  clear hs2 hM
  go_upto_region 4 with (first
   | (go_at_call 7;((with_reducible refine (H7.out w1).mono ?_);rintro e w2 ⟨rfl,b2⟩;have HL2:=ħ (HL1.out.below b2);clear b2))
   | (go_at_call 14;((with_reducible refine (H14.out _ HL2.out.b).mono ?_);rintro e w3 ⟨rfl,b3⟩;have HL3:=ħ (HL2.out.below b3);clear b3)))
  have hmk:∀ W:World,(Instr.makeMap 63 none).run Tryz.prog W=.ok (.map (some W.heap.size)) (W.alloc (.map #[] 0)):=fun _=>by kernel_rfl
  go_upto_region 5 with fail
  clear hmk
  obtain ⟨cc4,hl4,-,h101,-⟩:=HL3.out.paint hn1.2 ((Below.refl w3.heap.size w3).alloc (Nat.le_refl _) (.map #[] 0)) (fun k=>k=w3.heap.size) (fun k hk=>by subst hk;simp)
  have hm4:MapB (w3.alloc (.map #[] 0)) w3.heap.size .i64 []:=MapB.new w3 .i64
  have h101:=h101 _ rfl
  have hw3:=HL3.out.b.size
  obtain ⟨mp,hmp⟩:∃ mp,mp=w3.heap.size:=⟨_,rfl⟩
  rw[←hmp] at hm4 h101 hw3⊢
  generalize w3.alloc (.map #[] 0)=w4 at *
  have HL4:=ħ hl4
  have HM4:=ħ hm4
  have H101:=ħ h101
  have HMP:=ħ hw3
  clear hl4 hm4 h101 hmp hw3 HL1 HL2 HL3 H7 H13 H14
  have HPl:=ħ fun (h:0<ss.length)=>HR.out.plain (by omega)
  go_wp2_with fail
  go_loopw [33] (fun vi wr=>∃ (i:Nat) (cc:Nat→Nat) (C:Cl) (G:Gh) (kv:List (Int × Value)),i≤ss.length∧vi=.int .i64 (i:Int)∧LC w m n fo g i wr cc C G∧MapB wr mp .i64 kv∧cc mp=101∧(∀ (t:Int) (v:Value),kget kv t=some v→∃ x:Int,v=.int .i64 x∧G.el t=some x)) (fun vi _=>ss.length - (intOf vi).toNat)
  case atStart=>exact ⟨0,_,_,_,[],Nat.zero_le _,rfl,HL4.out,HM4.out,H101.out,fun t v h=>by simp[kget] at h⟩
  case round=>
   obtain ⟨i,cc5,C5,G5,kv5,hi,rfl,hl5,hm5,h5,hk5⟩:=hrel
   have HL5:=ħ hl5
   have HM5:=ħ hm5
   have H5:=ħ h5
   have HK5:=ħ hk5
   clear hl5 hm5 h5 hk5 HL4 HM4 H101
   by_cases hin:i=ss.length
   ·have hlt:¬ ((i:Int)<(ss.length:Int)):=by omega
    clear hin
    go_wp2_with fail
    go_ret
    exact ⟨rfl,HL5.out.b⟩
   ·have hlt:(i:Int)<(ss.length:Int):=by omega
    have hil:i<ss.length:=by omega
    have HI:=ħ (show i≤300 by have:=(manyB_no HMN.out).1;omega)
    obtain ⟨⟨kd,wh,nn,xA,xc,xb⟩,hx⟩:∃ x,ss[i]?=some x:=⟨_,List.getElem?_eq_getElem hil⟩
    have HX:=ħ (And.intro (HT.out _ (List.mem_of_getElem? hx)) (HS2.out _ (List.mem_of_getElem? hx)))
    have hri:=HR.out.below HL5.out.b (fun _ h=>h.2)
    obtain ⟨y0,y1,y2,y3⟩:=tv_all hri hx
    have hix:=fun W=>ix41 (HPl.out (by omega)) c i hil W
    clear hx hri hin
    go_upto_region 8 with fail
    have b6:Below wr.heap.size wr (wr.alloc (.cells (stC kd wh nn xA xb.length xc) 48)):=(Below.refl _ _).alloc (Nat.le_refl _) _
    have g6:Blk (wr.alloc (.cells (stC kd wh nn xA xb.length xc) 48)) wr.heap.size 48 (stC kd wh nn xA xb.length xc):=Blk.new wr 48 _
    have hm6:=HM5.out.alloc (.cells (stC kd wh nn xA xb.length xc) 48)
    generalize wr.alloc (.cells (stC kd wh nn xA xb.length xc) 48)=w6 at *
    have HL6:=ħ (HL5.out.below b6)
    have HM6:=ħ hm6
    have z0:=g6.cell 0
    have z1:=g6.cell 1
    have z2:=g6.cell 2
    have z3:=g6.cell 3
    clear y0 y1 y2 y3 hix b6 g6 hm6 HL5 HM5
    have H15:=ħ (HL6.out.step HI.out hn1 HFO.out (x:=⟨kd,wh,nn,xA,xc,xb⟩) HX.out.1 (by have:=HX.out.2;omega))
    go_upto_region 10 with (go_at_call 15;((with_reducible refine H15.out.mono ?_);rintro e w7 ⟨rfl,cc7,G7,hl7,hg7,ag7,fr7⟩;have HL7:=ħ hl7;have HG7:=ħ hg7;have HA7:=ħ ag7;have HF7:=ħ fr7;clear hl7 hg7 ag7 fr7))
    obtain ⟨C7,hC7⟩:∃ C7,C7=C5.step kd wh nn xb:=⟨_,rfl⟩
    have hl7:=HL7.out
    rw[←hC7] at hl7
    obtain ⟨hs7,hI7,hw7,hn7,hz7,hb7⟩:=hl7
    obtain ⟨K,Am,cm,Ap,cp,At,ct,Al,cl,mv,hz⟩:=hs7
    have hm7:=HM6.out.fr HF7.out (fun e=>e.2 H5.out)
    have h7:cc7 mp=101:=(HA7.out mp HM6.out.lt).trans H5.out
    have hk7:∀ (t:Int) (v:Value),kget kv5 t=some v→∃ x:Int,v=.int .i64 x∧G7.el t=some x:=fun t v h=>by
     obtain ⟨x,hv,hx⟩:=HK5.out t v h
     exact ⟨x,hv,HG7.out.el t x hx⟩
    have hKn:K.length=n:=hz.len.trans hn7
    have qg:=hz.px
    have hgl:=hz.b.lt
    have hPp:=(Reads.of_own hz.op).plain (by omega)
    have HZ7:=ħ hz
    have HI7:=ħ hI7
    have HW7:=ħ hw7
    have HN7:=ħ hn7
    have HZZ7:=ħ hz7
    have HB7:=ħ hb7
    have HM7:=ħ hm7
    have H7:=ħ h7
    have HK7:=ħ hk7
    have HPP:=ħ hPp
    have HKN:=ħ hKn
    clear hz hI7 hw7 hn7 hz7 hb7 hm7 h7 hk7 hPp hC7 HL7 HL6 HM6 H5 HK5 HG7 HA7 HF7 H15 z0 z1 z2 z3 hKn
    go_wp2_with fail
    clear qg hgl
    go_loopw [46] (fun vu wx=>∃ (u:Nat) (kv:List (Int × Value)),u≤K.length∧vu=.int .i64 (u:Int)∧CZ wx cc7 g C7 K fo Am cm Ap cp At ct Al cl mv∧MapB wx mp .i64 kv∧Below w.heap.size w wx∧(∀ (t:Int) (v:Value),kget kv t=some v→∃ x:Int,v=.int .i64 x∧G7.el t=some x)) (fun vu _=>K.length - (intOf vu).toNat)
    case atStart=>exact ⟨0,_,Nat.zero_le _,rfl,HZ7.out,HM7.out,HB7.out,HK7.out⟩
    case round=>
     obtain ⟨u,kv,hu,rfl,hz,hmx,hbx,hkx⟩:=hrel
     have HZ:=ħ hz
     have HM:=ħ hmx
     have HBX:=ħ hbx
     have HKX:=ħ hkx
     clear hz hmx hbx hkx HZ7 HM7 HB7 HK7
     by_cases hun:u=K.length
     ·have hlu:¬ ((u:Int)<(K.length:Int)):=by omega
      clear hun
      go_wp2_with fail
      exact ⟨⟨i+1,cc7,C7,G7,kv,by omega,by go_num,⟨⟨K,_,_,_,_,_,_,_,_,_,HZ.out⟩,HI7.out,HW7.out,HN7.out,HZZ7.out,HBX.out⟩,HM.out,H7.out,HKX.out⟩,by simp[intOf];omega⟩
     ·have hlu:(u:Int)<(K.length:Int):=by omega
      have hul:u<K.length:=by omega
      obtain ⟨⟨xp,xv,xj,xl,xf',xcol,xs⟩,hxq⟩:∃ x,K[u]?=some x:=⟨_,List.getElem?_eq_getElem hul⟩
      obtain ⟨qp,hnd,hns⟩:=HZ.out.at hxq
      have hixp:=fun W=>ix51 HPP.out cp u hul W
      have HEL:=ħ (HI7.out.leader hnd)
      have HSF:=ħ (HI7.out.lead_self hnd)
      have HNS:=ħ hns
      clear hxq hnd hns hun
      have hK5:K.length≤5:=by have:=HKN.out;omega
      go_upto_region 13 with fail
      have H20:=ħ (leader20 wr xcol xp xv xj xl xf' xs false [] HNS.out)
      have H21:=ħ (role21 wr xcol xp xv xj xl xf' xs false [] HNS.out)
      have H22:=ħ (term22 wr xcol xp xv xj xl xf' xs false [] HNS.out)
      obtain ⟨ld,hld⟩:∃ ld,ld=xs.ld:=⟨_,rfl⟩
      obtain ⟨tm,htm⟩:∃ tm,tm=xs.term:=⟨_,rfl⟩
      obtain ⟨rl,hrl⟩:∃ rl,rl=xs.role:=⟨_,rfl⟩
      rw[←hld] at H20 HEL HSF
      rw[←htm] at H22 HEL
      rw[←hrl] at H21 HSF
      clear hld htm hrl qp hixp
      go_upto_region 14 with (go_at_call 20;((with_reducible refine H20.out.mono ?_);rintro e w8 ⟨rfl,rfl⟩))
      go_cut [60] (fun v wx=>v=.bool false∧wx=wr)
      case first=>
       by_cases hr:rl=3
       ·have hlu':=HSF.out hr
        subst hlu' hr
        go_wp2_with (go_at_call 21;((with_reducible refine H21.out.mono ?_);rintro e w8 ⟨rfl,rfl⟩))
        go_meet
        exact ⟨rfl,rfl⟩
       ·have hr1:(rl == 3)=false:=by simpa using hr
        go_wp2_with (go_at_call 21;((with_reducible refine H21.out.mono ?_);rintro e w8 ⟨rfl,rfl⟩))
        go_meet
        exact ⟨rfl,rfl⟩
      case rest=>
       obtain ⟨rfl,rfl⟩:=hcut
       clear H20 H21 HSF
       by_cases hneg:ld<0
       ·go_wp2_with fail
        exact ⟨⟨u+1,kv,by omega,by go_num,HZ.out,HM.out,HBX.out,HKX.out⟩,by simp[intOf];omega⟩
       ·have hel:=HEL.out (by omega)
        have HEE:=ħ hel
        have hlk:(Instr.lookup 63 (.map (some mp)) (.int .i64 tm) true).run Tryz.prog wc=.ok (.tuple #[.int .i64 0,.bool false]) wc∨(Instr.lookup 63 (.map (some mp)) (.int .i64 tm) true).run Tryz.prog wc=.ok (.tuple #[.int .i64 ld,.bool true]) wc:=by
         have h:=MapB.lookup (P:=Tryz.prog) HM.out Tryz.underlying63 Tryz.underlying2 zero3 tm true
         cases hk:kget kv tm with
         | none=>rw[hk] at h;exact .inl h
         | some v=>
          obtain ⟨x,rfl,hx⟩:=HKX.out tm v hk
          rw[hel] at hx
          injection hx with hx
          subst hx
          rw[hk] at h
          exact .inr h
        have hup:=MapB.update (P:=Tryz.prog) HM.out Tryz.underlying63 Tryz.underlying2 tm (.int .i64 ld)
        clear hel HEL
        rcases hlk with hlk | hlk
        all_goals
         go_wp2_with (go_at_call 22;((with_reducible refine H22.out.mono ?_);rintro e w8 ⟨rfl,rfl⟩))
         have hfm:Fr (fun k=>k=mp) wc (mput wc mp .i64 tm (.int .i64 ld)):=Fr.mput (S:=fun k=>k=mp) (Fr.refl (fun k=>k=mp) wc) (b:=mp) (.inl rfl) .i64 tm (.int .i64 ld)
         exact ⟨⟨u+1,kput kv tm (.int .i64 ld),by omega,by go_num,HZ.out.own (by have:=HKN.out;omega) hfm (fun k _ hk=>by rw[hk];exact H7.out) (fun _ _=>rfl) (fun k hk=>Nat.lt_of_lt_of_le (HZ.out.lt k hk) hfm.size),HM.out.put _ _,HBX.out.trans (hfm.below HBX.out.size (fun k hk e=>by have:=HMP.out;omega)),fun t v h=>by
          rw[kget_kput] at h
          split at h
          ·rename_i e
           injection h with h
           subst h
           exact ⟨ld,rfl,by first | (rw[e];exact HEE.out) | (rw[←e];exact HEE.out)⟩
          ·exact HKX.out t v h⟩,by simp[intOf];omega⟩
end Go.Proofs.YtdfobfjpkjddpaaGreat
