import Derived.Test.YtdfobfjpkjddpaaGreatURS2
set_option linter.unusedVariables false
set_option linter.unusedSimpArgs false
set_option maxRecDepth 10000
set_option maxHeartbeats 8000000
namespace Go.Raft
open Go.Proofs.YtdfobfjpkjddpaaGreat
def gw (A L:List Ent)(k:Nat):List Ent:=A ++ (L.drop A.length).take (k - A.length)
theorem gw_zero (A L:List Ent):gw A L 0=A:=by simp[gw]
theorem gw_len {A L:List Ent}{k:Nat}(hk:k≤L.length):(gw A L k).length=max A.length k:=by
 unfold gw
 rw[List.length_append,List.length_take,List.length_drop]
 omega
theorem gw_old {A L:List Ent}{k:Nat}(h:k<A.length):gw A L k=A∧gw A L (k+1)=A:=by
 unfold gw
 rw[show k - A.length=0 by omega,show k+1 - A.length=0 by omega]
 simp
theorem gw_new {A L:List Ent}{k:Nat}{x:Ent}(h:A.length≤k)(hx:L[k]?=some x):gw A L (k+1)=gw A L k ++ [x]:=by
 unfold gw
 rw[show k+1 - A.length=(k - A.length)+1 by omega,List.take_add_one,List.getElem?_drop,show A.length+(k - A.length)=k by omega,hx]
 simp
theorem gw_end {A L:List Ent}{k:Nat}(hk:k≤L.length)(hA:Ag L A (min k A.length)):(k≤A.length→gw A L k=A)∧(A.length≤k→gw A L k=L.take k):=by
 constructor
 ·intro h
  unfold gw
  rw[show k - A.length=0 by omega]
  simp
 ·intro h
  have e:A=L.take A.length:=by
   apply List.ext_getElem?
   intro j
   rcases Nat.lt_or_ge j A.length with hj | hj
   ·rw[List.getElem?_take_of_lt hj]
    exact (hA j (by omega)).symm
   ·rw[List.getElem?_eq_none hj,List.getElem?_eq_none (by rw[List.length_take];omega)]
  unfold gw
  obtain ⟨d,rfl⟩:∃ d,k=A.length+d:=⟨k - A.length,by omega⟩
  rw[Nat.add_sub_cancel_left,List.take_add,←e]
end Go.Raft
namespace Go.Proofs.YtdfobfjpkjddpaaGreat
open Go.RowKit Go.Own Go.Quo Go.Wire Go.Raft
attribute [local irreducible] Go.wpQuiet
structure AR (W:World) (cc:Nat→Nat) (A:Option Addr) (c:Nat) (es:List EV):Prop where
 o:W.ownsRow 0 58 3 (.slice A es.length c) es.length (es.flatMap evL)
 c:∀ k,(Value.slice A es.length c).ownBlock=some k→cc k=101
 b:EB W (fun k=>cc k=0∧k<W.heap.size) es
 y:∀ x∈es,Bytes x.b
 l:es.length≤1000000
section
variable {W W':World} {cc c1:Nat→Nat} {A:Option Addr} {c:Nat} {es:List EV}
theorem AR.nil:AR W cc none 0 []:=⟨World.ownsRow_nil _ _ _ _,fun k hk=>(by cases hk),fun x hx=>(by cases hx),fun x hx=>(by cases hx),Nat.zero_le _⟩
theorem AR.move (h:AR W cc A c es)(hf:Fr (fun k=>cc k≠0∧cc k≠101) W W')(ag:∀ k,k<W.heap.size→c1 k=cc k):AR W' c1 A c es where
 o:=own_fr h.o hf (fun k hk e=>e.2 (h.c k hk))
 c k hk:=by rw[ag k (own_lt h.o hk)];exact h.c k hk
 b:=(h.b.fr hf (fun k hk e=>e.1 hk.1)).more (fun k hk=>⟨by rw[ag k hk.2];exact hk.1,Nat.lt_of_lt_of_le hk.2 hf.size⟩)
 y:=h.y
 l:=h.l
theorem AR.below (h:AR W cc A c es)(hb:Below W.heap.size W W'):AR W' cc A c es:=h.move (Fr.of_below hb) (fun _ _=>rfl)
theorem AR.push (h:AR W cc A c es){g:Nat}{C:Cl}{K:List NQ}{fo:Ms}{Am Ap At Al:Option Addr}{cm cp ct cl:Nat}{mv:List MV}(hz:CZ W cc g C K fo Am cm Ap cp At ct Al cl mv)(hK:K.length≤90)(x:EV)(hx:Reads W (fun k=>cc k=0∧k<W.heap.size) 1 x.A x.b.length (bys x.b))(hy:Bytes x.b)(hl:es.length+1≤1000000){A':Option Addr}{c':Nat}(ho:W'.ownsRow 0 58 3 (.slice A' (es.length+1) c') (es.length+1) (es.flatMap evL ++ evL x))(hg:W.grownBy W' (Value.slice A es.length c).ownBlock)(hat:(Value.slice A' (es.length+1) c').ownBlock=(Value.slice A es.length c).ownBlock∨(Value.slice A' (es.length+1) c').ownBlock=some W.heap.size) :
 ∃ c1,CZ W' c1 g C K fo Am cm Ap cp At ct Al cl mv∧AR W' c1 A' c' (es ++ [x])∧(∀ k,k<W.heap.size→c1 k=cc k)∧Fr (fun k=>cc k=101) W W':=by
 classical
 have hf:Fr (fun k=>(Value.slice A es.length c).ownBlock=some k) W W':=(Fr.refl _ _).grown hg (fun k hk=>.inl hk)
 obtain ⟨c1,k1,k2,k3⟩:∃ c1:Nat→Nat,(∀ k,k<W.heap.size→c1 k=cc k)∧(∀ k,(Value.slice A' (es.length+1) c').ownBlock=some k→c1 k=101)∧(∀ k,c1 k≠0→k<W'.heap.size):=by
  refine ⟨fun k=>if W.heap.size≤k then (if (Value.slice A' (es.length+1) c').ownBlock=some k then 101 else 0) else cc k,fun k hk=>if_neg (by omega),fun k hk=>?_,fun k hk=>?_⟩
  ·show (if W.heap.size≤k then (if (Value.slice A' (es.length+1) c').ownBlock=some k then 101 else 0) else cc k)=101
   by_cases hkw:W.heap.size≤k
   ·rw[if_pos hkw,if_pos hk]
   ·rw[if_neg hkw]
    rcases hat with e | e
    ·exact h.c k (e ▸ hk)
    ·rw[hk] at e;injection e with e;omega
  ·have hk:(if W.heap.size≤k then (if (Value.slice A' (es.length+1) c').ownBlock=some k then 101 else 0) else cc k)≠0:=hk
   split at hk
   ·split at hk
    ·rename_i e;exact own_lt ho e
    ·exact absurd rfl hk
   ·exact Nat.lt_of_lt_of_le (hz.lt k hk) hf.size
 have hll:(es ++ [x]).length=es.length+1:=by simp
 have hS:∀ k,k<W.heap.size→(Value.slice A es.length c).ownBlock=some k→cc k=101:=fun k _ hk=>h.c k hk
 have hB:∀ y,Reads W (fun k=>cc k=0∧k<W.heap.size) 1 y.A y.b.length (bys y.b)→Reads W' (fun k=>c1 k=0∧k<W'.heap.size) 1 (EV.A y) y.b.length (bys y.b):=fun y hy=>(hy.fr hf (fun k hk e=>by have:=h.c k e;rw[hk.1] at this;cases this)).more (fun k hk=>⟨by rw[k1 k hk.2];exact hk.1,Nat.lt_of_lt_of_le hk.2 hf.size⟩)
 refine ⟨c1,hz.own hK hf hS k1 k3,⟨?_,?_,?_,?_,by rw[hll];exact hl⟩,k1,hf.mono (fun k hk e=>hS k hk e)⟩
 ·rw[hll,List.flatMap_append,List.flatMap_cons,List.flatMap_nil,List.append_nil];exact ho
 ·rw[hll];exact k2
 ·intro y hy
  rcases List.mem_append.1 hy with e | e
  ·exact hB y (h.b y e)
  ·rw[List.mem_singleton] at e;subst e;exact hB _ hx
 ·intro y hy2
  rcases List.mem_append.1 hy2 with e | e
  ·exact h.y y e
  ·rw[List.mem_singleton] at e;subst e;exact hy
end
theorem logsafe4 (w:World)(a b:Nat)(ha:a<256)(hb:b<256)(A:Option Addr)(c:Nat)(ss:List TV)(hR:Reads w (fun _=>True) 4 A ss.length (ss.flatMap tvL))(hT:∀ x∈ss,TOk w x) :
 Calls Tryz.prog 4 #[.agg #[.int .u8 (a:Int),.int .u8 (b:Int)],.slice A ss.length c] w fun e w'=>e=.returned (.bool true)∧Below w.heap.size w w':=by
 obtain ⟨n,hn⟩:∃ n,n=a % 5+1:=⟨_,rfl⟩
 obtain ⟨m,hm⟩:∃ m,m=b % (a % 5+1)+1:=⟨_,rfl⟩
 have hn1:1≤n∧n≤5:=by omega
 have hm1:1≤m∧m≤n:=by have:=Nat.mod_lt b (show 0<a % 5+1 by omega);omega
 have H13:=ħ fun W=>begin13 W a b ha hb
 have H7:=ħ fun W=>awake7 W
 have HR:=ħ (hR.old (by decide))
 have HT:=ħ hT
 have H14:=ħ fun W (h:Below w.heap.size w W)=>many14 W _ A c ss ((hR.old (by decide)).below h (fun _ h=>h.2))
 clear hR hT
 rw[←hm,←hn] at H13
 clear hn hm ha hb
 go_enter Tryz.func4,Tryz.ntmps4
 go_upto_region 1 with fail
 have b0:Below w.heap.size w (w.alloc (.cells #[.int .u8 (a:Int),.int .u8 (b:Int)] 40)):=(Below.refl _ _).alloc (Nat.le_refl _) _
 go_upto_region 2 with (go_at_call 13;((with_reducible refine (H13.out _).mono ?_);rintro e w1 ⟨g,cc,fo,rfl,hcs,hfo,hz,hb1⟩;have HL1:=ħ (show LC w m n fo g 0 w1 cc (clN m n) g0 from ⟨hcs,cinv_clN hm1 hn1.2,cw_clN hm1 hn1.2,by simp[clN],fun k hk=>hz k (Nat.lt_of_lt_of_le hk b0.size),b0.trans (hb1.mono b0.size)⟩);have HFO:=ħ hfo;clear hcs hfo hz hb1))
 clear b0
 cases hM:manyB ss with
 | true=>
  rw[hM] at H14
  go_wp2_with (first
   | (go_at_call 7;((with_reducible refine (H7.out w1).mono ?_);rintro e w2 ⟨rfl,b2⟩;have HB2:=ħ (HL1.out.b.trans (b2.mono HL1.out.b.size));clear b2))
   | (go_at_call 14;((with_reducible refine (H14.out _ HB2.out).mono ?_);rintro e w3 ⟨rfl,b3⟩;have HB3:=ħ (HB2.out.trans (b3.mono HB2.out.size));clear b3))
   | (go_at_call 7;((with_reducible refine (H7.out w3).mono ?_);rintro e w4 ⟨rfl,b4⟩;have HB4:=ħ (HB3.out.trans (b4.mono HB3.out.size));clear b4)))
  go_ret
  exact ⟨rfl,HB4.out⟩
 | false=>
  rw[hM] at H14
  obtain ⟨hs1,hs2⟩:=manyB_no hM
  have HS2:=ħ hs2
  have HMN:=ħ hM
  clear hs2 hM
  go_upto_region 4 with (first
   | (go_at_call 7;((with_reducible refine (H7.out w1).mono ?_);rintro e w2 ⟨rfl,b2⟩;have HL2:=ħ (HL1.out.below b2);clear b2))
   | (go_at_call 14;((with_reducible refine (H14.out _ HL2.out.b).mono ?_);rintro e w3 ⟨rfl,b3⟩;have HL3:=ħ (HL2.out.below b3);clear b3)))
  go_wp2_with fail
  clear H7 H13 H14 HL1 HL2
  have HPl:=ħ fun (h:0<ss.length)=>HR.out.plain (by omega)
  go_loopw [6,32] (fun va vi wr=>∃ (i:Nat) (cc:Nat→Nat) (C:Cl) (G:Gh) (A6:Option Addr) (c6:Nat) (es:List EV),i≤ss.length∧vi=.int .i64 (i:Int)∧va=.slice A6 es.length c6∧LC w m n fo g i wr cc C G∧AR wr cc A6 c6 es∧Agr G (es.map EV.e)) (fun _ vi _=>ss.length - (intOf vi).toNat)
  case atStart=>exact ⟨0,_,_,_,none,0,[],Nat.zero_le _,rfl,rfl,HL3.out,AR.nil,⟨.inl rfl⟩⟩
  case round=>
   obtain ⟨i,cc5,C5,G5,A5,c5,es5,hi,rfl,rfl,hl5,hr5,ha5⟩:=hrel
   have HL5:=ħ hl5
   have HR5:=ħ hr5
   have HG5:=ħ ha5
   clear hl5 hr5 ha5 HL3
   by_cases hin:i=ss.length
   ·have hlt:¬ ((i:Int)<(ss.length:Int)):=by omega
    clear hin
    go_wp2_with fail
    go_ret
    exact ⟨rfl,HL5.out.b⟩
   ·have hlt:(i:Int)<(ss.length:Int):=by omega
    have hil:i<ss.length:=by omega
    have HI:=ħ (show i≤300 by have:=(manyB_no HMN.out).1;omega)
    obtain ⟨⟨kd,wh,nn,xA,xc,xb⟩,hx⟩:∃ x,ss[i]?=some x:=⟨_,List.getElem?_eq_getElem hil⟩
    have HX:=ħ (And.intro (HT.out _ (List.mem_of_getElem? hx)) (HS2.out _ (List.mem_of_getElem? hx)))
    have hri:=HR.out.below HL5.out.b (fun _ h=>h.2)
    obtain ⟨y0,y1,y2,y3⟩:=tv_all hri hx
    have hix:=fun W=>ix41 (HPl.out (by omega)) c i hil W
    clear hx hri hin
    go_upto_region 8 with fail
    have b6:Below wr.heap.size wr (wr.alloc (.cells (stC kd wh nn xA xb.length xc) 48)):=(Below.refl _ _).alloc (Nat.le_refl _) _
    have g6:Blk (wr.alloc (.cells (stC kd wh nn xA xb.length xc) 48)) wr.heap.size 48 (stC kd wh nn xA xb.length xc):=Blk.new wr 48 _
    generalize wr.alloc (.cells (stC kd wh nn xA xb.length xc) 48)=w6 at *
    have HL6:=ħ (HL5.out.below b6)
    have HR6:=ħ (HR5.out.below b6)
    have z0:=g6.cell 0
    have z1:=g6.cell 1
    have z2:=g6.cell 2
    have z3:=g6.cell 3
    clear y0 y1 y2 y3 hix b6 g6 HL5 HR5
    have H15:=ħ (HL6.out.step HI.out hn1 HFO.out (x:=⟨kd,wh,nn,xA,xc,xb⟩) HX.out.1 (by have:=HX.out.2;omega))
    go_upto_region 10 with (go_at_call 15;((with_reducible refine H15.out.mono ?_);rintro e w7 ⟨rfl,cc7,G7,hl7,hg7,ag7,fr7⟩;have HL7:=ħ hl7;have HR7:=ħ (HR6.out.move fr7 ag7);have HA7:=ħ (HG5.out.gro HL6.out.I.g hg7);clear hl7 hg7 ag7 fr7))
    obtain ⟨C7,hC7⟩:∃ C7,C7=C5.step kd wh nn xb:=⟨_,rfl⟩
    have hl7:=HL7.out
    rw[←hC7] at hl7
    obtain ⟨hs7,hI7,hw7,hn7,hz7,hb7⟩:=hl7
    obtain ⟨K,Am,cm,Ap,cp,At,ct,Al,cl,mv,hz⟩:=hs7
    have hKn:K.length=n:=hz.len.trans hn7
    have qg:=hz.px
    have hgl:=hz.b.lt
    have hPp:=(Reads.of_own hz.op).plain (by omega)
    have HZ7:=ħ hz
    have HI7:=ħ hI7
    have HW7:=ħ hw7
    have HN7:=ħ hn7
    have HB7:=ħ hb7
    have HZZ7:=ħ hz7
    have HPP:=ħ hPp
    have HKN:=ħ hKn
    clear hz hI7 hw7 hn7 hz7 hb7 hPp hC7 HL7 HL6 HR6 HG5 H15 z0 z1 z2 z3 hKn
    go_wp2_with fail
    clear qg hgl
    go_loopw [6,45] (fun va vu wx=>∃ (u:Nat) (cc:Nat→Nat) (A6:Option Addr) (c6:Nat) (es:List EV),u≤K.length∧vu=.int .i64 (u:Int)∧va=.slice A6 es.length c6∧CZ wx cc g C7 K fo Am cm Ap cp At ct Al cl mv∧AR wx cc A6 c6 es∧Agr G7 (es.map EV.e)∧Below w.heap.size w wx∧(∀ k,k<w.heap.size→cc k=0)) (fun _ vu _=>K.length - (intOf vu).toNat)
    case atStart=>exact ⟨0,_,_,_,_,Nat.zero_le _,rfl,rfl,HZ7.out,HR7.out,HA7.out,HB7.out,HZZ7.out⟩
    case round=>
     obtain ⟨u,cc,A6,c6,es,hu,rfl,rfl,hz,hr6,ha6,hbx,hzz⟩:=hrel
     have HZ:=ħ hz
     have HR6:=ħ hr6
     have HA6:=ħ ha6
     have HBX:=ħ hbx
     have HZZ:=ħ hzz
     clear hz hr6 ha6 hbx hzz HZ7 HR7 HA7 HB7 HZZ7
     by_cases hun:u=K.length
     ·have hlu:¬ ((u:Int)<(K.length:Int)):=by omega
      clear hun
      go_wp2_with fail
      exact ⟨⟨i+1,cc,C7,G7,A6,c6,es,by omega,by go_num,rfl,⟨⟨K,_,_,_,_,_,_,_,_,_,HZ.out⟩,HI7.out,HW7.out,HN7.out,HZZ.out,HBX.out⟩,HR6.out,HA6.out⟩,by simp[intOf];omega⟩
     ·have hlu:(u:Int)<(K.length:Int):=by omega
      have hul:u<K.length:=by omega
      obtain ⟨⟨xp,xv,xj,xl,xf',xcol,xs⟩,hxq⟩:∃ x,K[u]?=some x:=⟨_,List.getElem?_eq_getElem hul⟩
      obtain ⟨qp,hnd,hns⟩:=HZ.out.at hxq
      have hnd:C7.nd[u]?=some xs:=hnd
      have hixp:=fun W=>ix51 HPP.out cp u hul W
      have HXQ:=ħ hxq
      have HWF:=ħ (HW7.out.n u xs hnd).w
      have HCOM:=ħ (HI7.out.com hnd HA6.out)
      have HNS:=ħ hns
      have hK5:K.length≤5:=by have:=HKN.out;omega
      have hln:xs.log.length≤1000000:=by have:=HWF.out.ln;have:=HI.out;omega
      obtain ⟨cm0,hcm0⟩:∃ k:Nat,xs.commit=(k:Int):=⟨xs.commit.toNat,by have:=HCOM.out.1;omega⟩
      have hcl:cm0≤xs.log.length:=by have:=HCOM.out.2.1;omega
      have HLN:=ħ hln
      clear hnd hns hun hxq
      go_upto_region 13 with fail
      have H16:=ħ fun W (h:Below wr.heap.size wr W)=>(show Calls Tryz.prog 16 #[.pointer (some ⟨xp,0,none⟩)] W fun e w'=>e=.returned (.int .i64 (cm0:Int))∧W=w' from by
       have h2:=commit16 W xcol xp xv xj xl xf' xs false [] (HNS.out.below h)
       rw[hcm0] at h2
       exact h2)
      have H17:=ħ (lastIndex17 wr xcol xp xv xj xl xf' xs false [] HNS.out hln)
      obtain ⟨ln,hlnn⟩:∃ ln,ln=xs.log.length:=⟨_,rfl⟩
      rw[←hlnn] at H17 hcl hln
      have HLL:=ħ hlnn
      have HCL2:=ħ (show cm0≤xs.log.length by have:=HLL.out;omega)
      have hg1:¬ ((ln:Int)<(cm0:Int)):=by omega
      have hg2:¬ ((cm0:Int)<0):=by omega
      clear qp hixp hlnn
      go_upto_region 15 with (first
       | (go_at_call 16;((with_reducible refine (H16.out _ (Below.refl _ _)).mono ?_);rintro e w8 ⟨rfl,rfl⟩))
       | (go_at_call 17;((with_reducible refine H17.out.mono ?_);rintro e w8 ⟨rfl,b8⟩;have HB8:=ħ b8;clear b8))
       | (go_at_call 16;((with_reducible refine (H16.out _ HB8.out).mono ?_);rintro e w9 ⟨rfl,rfl⟩)))
      have HCL:=ħ hcl
      have hcm1:cm0≤1000000:=by omega
      clear H17 hg1 hg2 hcl hln
      have HZ8:=ħ (HZ.out.fr (S:=fun _=>False) (Fr.of_below HB8.out) (fun _ _ e=>e))
      have HR8:=ħ (HR6.out.below HB8.out)
      have HBX8:=ħ (HBX.out.trans (HB8.out.mono HBX.out.size))
      have H16:=ħ fun W c2 (hz:CZ W c2 g C7 K fo Am cm Ap cp At ct Al cl mv)=>(show Calls Tryz.prog 16 #[.pointer (some ⟨xp,0,none⟩)] W fun e w'=>e=.returned (.int .i64 (cm0:Int))∧W=w' from by
       have h2:=commit16 W xcol xp xv xj xl xf' xs false [] (hz.at HXQ.out).2.2
       rw[hcm0] at h2
       exact h2)
      clear HZ HR6 HBX HNS HB8
      go_wp2_with fail
      go_loopw [6,11] (fun va vi wx=>∃ (k:Nat) (c2:Nat→Nat) (A2:Option Addr) (ca:Nat) (es2:List EV),k≤cm0∧vi=.int .i64 ((k:Int)+1)∧va=.slice A2 es2.length ca∧CZ wx c2 g C7 K fo Am cm Ap cp At ct Al cl mv∧AR wx c2 A2 ca es2∧es2.map EV.e=gw (es.map EV.e) xs.log k∧Below w.heap.size w wx∧(∀ k,k<w.heap.size→c2 k=0)) (fun _ vi _=>cm0+1 - (intOf vi).toNat)
      case atStart=>exact ⟨0,_,_,_,_,Nat.zero_le _,rfl,rfl,HZ8.out,HR8.out,(gw_zero _ _).symm,HBX8.out,HZZ.out⟩
      case round=>
       obtain ⟨k,c2,A2,ca,es2,hk,rfl,rfl,hz,hr2,hq2,hbx,hzz⟩:=hrel
       have HZ:=ħ hz
       have HR2:=ħ hr2
       have HQ2:=ħ hq2
       have HBX:=ħ hbx
       have HZZ2:=ħ hzz
       clear hz hr2 hq2 hbx hzz HZ8 HR8 HBX8 HZZ
       have H16k:=ħ (H16.out wr c2 HZ.out)
       by_cases hkc:k=cm0
       ·have hle:¬ ((k:Int)+1≤(cm0:Int)):=by omega
        go_wp2_with (go_at_call 16;((with_reducible refine H16k.out.mono ?_);rintro e w9 ⟨rfl,rfl⟩))
        refine ⟨⟨u+1,c2,A2,ca,es2,by omega,by go_num,rfl,HZ.out,HR2.out,?_,HBX.out,HZZ2.out⟩,by simp[intOf];omega⟩
        obtain ⟨q1,q2,q3,q4⟩:=HCOM.out
        have e0:xs.commit.toNat=cm0:=by rw[hcm0];rfl
        rw[e0] at q2 q3 q4
        obtain ⟨g1,g2⟩:=gw_end (k:=cm0) HCL2.out q3
        rw[HQ2.out,hkc]
        rcases q4 with q | q
        ·rw[g1 q];exact HA6.out
        ·rcases Nat.le_total cm0 (es.map EV.e).length with q' | q'
         ·rw[g1 q'];exact HA6.out
         ·rw[g2 q'];exact q
       ·have hle:(k:Int)+1≤(cm0:Int):=by omega
        have hkl:k<xs.log.length:=by have:=HCL2.out;omega
        obtain ⟨⟨et,ek,eb⟩,hxe⟩:∃ x,xs.log[k]?=some x:=⟨_,List.getElem?_eq_getElem hkl⟩
        have HXE:=ħ hxe
        have HEY:=ħ (HWF.out.bd.sm _ (List.mem_of_getElem? hxe))
        have H18:=ħ (show Calls Tryz.prog 18 #[.pointer (some ⟨xp,0,none⟩),.int .i64 ((k:Int)+1)] wr fun e w'=>∃ A c,e=.returned (.tuple #[evV et ek A eb.length c,.bool true])∧Reads w' (wr.heap.size≤·) 1 A eb.length (bys eb)∧Below wr.heap.size wr w' from entry18_yes wr xcol xp xv xj xl xf' xs false [] (HZ.out.at HXQ.out).2.2 k ⟨et,ek,eb⟩ HLN.out hxe HWF.out.bd.sm)
        clear hxe hkl
        go_upto_region 21 with (first
         | (go_at_call 16;((with_reducible refine H16k.out.mono ?_);rintro e w9 ⟨rfl,rfl⟩))
         | (go_at_call 18;((with_reducible refine H18.out.mono ?_);rintro e w9 ⟨A9,c9,rfl,r9,b9⟩;have HR9:=ħ r9;have HB9:=ħ b9;clear r9 b9)))
        have b10:Below wr.heap.size wr (w9.alloc (.cells (evC et ek A9 eb.length c9) 58)):=HB9.out.alloc HB9.out.size _
        have g10:Blk (w9.alloc (.cells (evC et ek A9 eb.length c9) 58)) w9.heap.size 58 (evC et ek A9 eb.length c9):=Blk.new w9 58 _
        have r10:=(HR9.out.alloc (.cells (evC et ek A9 eb.length c9) 58))
        generalize w9.alloc (.cells (evC et ek A9 eb.length c9) 58)=w10 at *
        have HZ10:=ħ (HZ.out.fr (S:=fun _=>False) (Fr.of_below b10) (fun _ _ e=>e))
        have HR10:=ħ (HR2.out.below b10)
        have HBX10:=ħ (HBX.out.trans (b10.mono HBX.out.size))
        have HE10:=ħ (show Reads w10 (fun k=>c2 k=0∧k<w10.heap.size) 1 A9 eb.length (bys eb) from (r10.old (by decide)).more (fun k hk=>⟨by
         cases hc:c2 k with
         | zero=>rfl
         | succ n=>have:=HZ.out.lt k (by rw[hc];simp);omega,hk.2⟩))
        have HG10:=ħ g10
        have hw2:IntKind.i64.wrap ((k:Int)+1+1)=((k+1:Nat):Int)+1:=by rw[IntWalk.i64_in _ (by omega)];omega
        have e2l:=congrArg List.length HQ2.out
        rw[List.length_map,gw_len (by have:=HCL2.out;omega)] at e2l
        have HE2:=ħ e2l
        clear b10 g10 r10 HR9 HB9 H18 H16k e2l
        by_cases hnew:es2.length≤k
        ·have hgt:(es2.length:Int)<(k:Int)+1:=by omega
         have HN:=ħ (gw_new (show (es.map EV.e).length≤k by have:=HE2.out;omega) HXE.out)
         obtain ⟨x0,x1,x2⟩:=HG10.out.facts
         have x3:w10.cell? ⟨w9.heap.size,0,none⟩=some (.int .i64 et):=HG10.out.cell 0
         have x4:w10.cell? ⟨w9.heap.size,1,none⟩=some (.int .i64 ek):=HG10.out.cell 1
         have x5:w10.cell? ⟨w9.heap.size,2,none⟩=some (.slice A9 eb.length c9):=HG10.out.cell 2
         clear x1
         go_wp2_with (at_builtin;refine wpList_append_any _ rfl _ _ _ rfl 0 58 _ 3 40 Tryz.underlying45 info58 rfl (by omega) (.slice A2 es2.length ca) es2.length (es2.flatMap evL) rfl (by exact (HR10.out.below ((Below.refl _ _).alloc (Nat.le_refl _) _)).o) (fun _=>True) (some ⟨w10.heap.size,0,none⟩) 1 1 [.int .i64 et,.int .i64 ek,.slice A9 eb.length c9] rfl (by exact ((Reads.newS w10 [.int .i64 et,.int .i64 ek,.slice A9 eb.length c9] 58 (0,0) 1 3 rfl _ rfl).more (fun _ _=>trivial))) (by intro u hu;simp at hu;rcases hu with rfl | rfl | rfl <;> rfl) (by simp only[maxLen];omega) (by omega) (Nat.zero_le _) ?_;intro A11 c11 w11 hown hgr hat;have HP11:=ħ ((HR10.out.below ((Below.refl _ _).alloc (Nat.le_refl _) _)).push (HZ10.out.fr (S:=fun _=>False) (Fr.of_below ((Below.refl _ _).alloc (Nat.le_refl _) (.cells (evC et ek A9 eb.length c9) 58))) (fun _ _ e=>e)) (by omega) ⟨et,ek,A9,c9,eb⟩ ((HE10.out.alloc _).more (fun k hk=>⟨hk.1,by have:=hk.2;simp;omega⟩)) HEY.out.2 (by omega) hown hgr hat);clear hown hgr hat)
         obtain ⟨c3,hz3,hr3,ag3,fr3⟩:=HP11.out
         have hbl:Below w10.heap.size w10 (w10.alloc (.cells (evC et ek A9 eb.length c9) 58)):=(Below.refl _ _).alloc (Nat.le_refl _) _
         have hb11:=HBX10.out.trans (hbl.mono HBX10.out.size)
         have hw10:=HBX10.out.size
         go_simp
         refine ⟨⟨_,.slice A11 (es2.length+1) c11,.int .i64 ((k:Int)+1+1),⟨k+1,by omega,by rw[Int.natCast_add];rfl,c3,A11,c11,es2 ++ [⟨et,ek,A9,c9,eb⟩],by rw[List.length_append];rfl,hz3,hr3,by rw[List.map_append,HQ2.out,HN.out];rfl,hb11.trans (fr3.below hb11.size (fun i hi e=>by rw[HZZ2.out i hi] at e;cases e)),fun i hi=>by rw[ag3 i (by simp;omega)];exact HZZ2.out i hi⟩,rfl,rfl,rfl⟩,by simp[intOf];omega⟩
        ·have hgt:¬ ((es2.length:Int)<(k:Int)+1):=by omega
         have hkA:k<(es.map EV.e).length:=by have:=HE2.out;omega
         obtain ⟨gw1,gw2⟩:=gw_old (L:=xs.log) hkA
         have hke:k<es2.length:=by omega
         obtain ⟨⟨yt,yk,yA,yc,yb⟩,hye⟩:∃ y,es2[k]?=some y:=⟨_,List.getElem?_eq_getElem hke⟩
         have hyx:some (⟨yt,yk,yb⟩:Ent)=some ⟨et,ek,eb⟩:=by
          have h1:(es2.map EV.e)[k]?=some ⟨yt,yk,yb⟩:=by rw[List.getElem?_map,hye];rfl
          rw[HQ2.out,gw1] at h1
          have e0:xs.commit.toNat=cm0:=by rw[hcm0];rfl
          have h2:=HCOM.out.2.2.1 k (by rw[e0];omega)
          rw[←h1,←h2,HXE.out]
         injection hyx with hyx
         injection hyx with e1 e2 e3
         subst e1 e2 e3
         have HYE:=ħ hye
         have HGW:=ħ (gw2.trans gw1.symm)
         have hAR:=HR10.out
         have hPE:=((Reads.of_own hAR.o).plain (by omega))
         have hixe:=fun W=>ixE hPE ca k hke W
         have HK:=ħ fun W (hq:Below w10.heap.size w10 W)=>(show (W.cell? ⟨w9.heap.size,0,none⟩=some (.int .i64 yt)∧W.cell? ⟨w9.heap.size,1,none⟩=some (.int .i64 yk)∧W.cell? ⟨w9.heap.size,2,none⟩=some (.slice A9 yb.length c9))∧(W.cell? ⟨bk A2,ofs A2+k * 3,none⟩=some (.int .i64 yt)∧W.cell? ⟨bk A2,ofs A2+k * 3+1,none⟩=some (.int .i64 yk)∧W.cell? ⟨bk A2,ofs A2+k * 3+2,none⟩=some (.slice yA yb.length yc)) from by
          have hb:=HG10.out.below hq HG10.out.lt
          have ha:=HR10.out.below hq
          exact ⟨⟨hb.cell 0,hb.cell 1,hb.cell 2⟩,ES.at_ (B:=fun k=>c2 k=101∨c2 k=0) ⟨(Reads.of_own ha.o).more (fun k hk=>.inl (ha.c k hk)),ha.b.more (fun k hk=>.inr hk.1)⟩ HYE.out⟩)
         have H19:=ħ fun W (hq:Below w10.heap.size w10 W)=>alike19 _ _ yt yk A9 c9 yb yt yk yA yc yb W (HE10.out.below hq (fun _ h=>h.2)) ((HR10.out.below hq).b _ (List.mem_of_getElem? HYE.out)) HEY.out.2 HEY.out.2 true (decide_eq_true rfl)
         have hwk:IntKind.i64.wrap ((k:Int)+1 - 1)=(k:Int):=by rw[IntWalk.i64_in _ (by omega)];omega
         have hwk2:IntKind.i64.wrap (k:Int)=(k:Int):=IntWalk.i64_in _ (by omega)
         clear hye hkA gw1 gw2 hAR hPE
         go_upto_region 23 with fail
         refine wp_region_quiet (C:=fun w'=>Below w10.heap.size w10 w') (by kernel_rfl) (by kernel_rfl) ((Below.refl _ _).drew) ?_
         repeat (refine wpQuiet_step (fun K hK=>?_);have HKK:=ħ hK;clear hK;first | (refine ite_no ?_ ?_;(focus (clear HKK K;go_simp;done));go_simp;refine HKK.out _ ?_;clear HKK K) | (refine ite_yes ?_ ?_;(focus (clear HKK K;go_simp;done));apply Exists.intro;refine ⟨fun wq hq=>?_,?_⟩;(focus ((obtain ⟨⟨y0,y1,y2⟩,y3,y4,y5⟩:=HK.out _ hq);go_simp;(first | done | rfl | ((refine (H19.out _ hq).mono ?_);rintro e w3 ⟨rfl,hh⟩;exact ⟨rfl,hq.trans (hh.mono hq.size)⟩))));go_simp;refine HKK.out _ ?_;clear HKK K))
         refine wpQuiet_nil ?_
         intro w12 hw12
         have HW12:=ħ hw12
         clear hw12 hixe hwk hwk2
         go_wp2_with fail
         go_simp
         exact ⟨⟨_,.slice A2 es2.length ca,.int .i64 ((k:Int)+1+1),⟨k+1,by omega,by rw[Int.natCast_add];rfl,c2,A2,ca,es2,rfl,HZ10.out.fr (S:=fun _=>False) (Fr.of_below HW12.out) (fun _ _ e=>e),HR10.out.below HW12.out,by rw[HGW.out];exact HQ2.out,HBX10.out.trans (HW12.out.mono HBX10.out.size),HZZ2.out⟩,rfl,rfl,rfl⟩,by simp[intOf];omega⟩
end Go.Proofs.YtdfobfjpkjddpaaGreat
