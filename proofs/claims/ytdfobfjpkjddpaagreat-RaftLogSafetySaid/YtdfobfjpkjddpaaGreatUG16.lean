import Derived.Test.YtdfobfjpkjddpaaGreatUG10
import Derived.Test.YtdfobfjpkjddpaaGreatUG15
import Derived.Test.YtdfobfjpkjddpaaGreatUG3
import Derived.Test.YtdfobfjpkjddpaaGreatUG13
set_option linter.unusedVariables false
set_option linter.unusedSimpArgs false
set_option maxRecDepth 10000
set_option maxHeartbeats 2000000
namespace Go.Proofs.YtdfobfjpkjddpaaGreat
open Go.RowKit Go.Own Go.Quo Go.Wire
theorem rdIs_suf (l:List Int):∃ pre,l=pre ++ (rdIs l).2.2:=by
 have hA:∀ (k:Nat) (acc l:List Int),∃ pre,l=pre ++ (readA k acc l).2.2:=by
  intro k
  induction k with
  | zero=>intro acc l;exact ⟨[],rfl⟩
  | succ k ih=>
   intro acc l
   rw[readA]
   split
   ·obtain ⟨p1,e1⟩:=rdI_suf l
    obtain ⟨p2,e2⟩:=ih (acc ++ [(rdI l).2.1]) (rdI l).2.2
    exact ⟨p1 ++ p2,by rw[List.append_assoc,←e2];exact e1⟩
   ·exact ⟨l,by simp⟩
 obtain ⟨p1,e1⟩:=rdL_suf l
 unfold rdIs
 split
 ·exact ⟨p1,e1⟩
 ·obtain ⟨p2,e2⟩:=hA (rdL l).2.1.toNat [] (rdL l).2.2
  exact ⟨p1 ++ p2,by rw[List.append_assoc,←e2];exact e1⟩
theorem rdIs_bytes {l:List Int}(h:Bytes l):Bytes (rdIs l).2.2:=by
 obtain ⟨pre,e⟩:=rdIs_suf l
 rw[e] at h
 exact h.right
theorem rdIs_len (l:List Int):(rdIs l).2.2.length≤l.length:=by
 obtain ⟨pre,e⟩:=rdIs_suf l
 have:=congrArg List.length e
 rw[List.length_append] at this;omega
theorem readA_lenL:∀ (k:Nat) (acc l:List Int),(readA k acc l).2.1.length≤acc.length+k
 | 0,acc,l=>by simp[readA]
 | k+1,acc,l=>by
  rw[readA]
  split
  ·have:=readA_lenL k (acc ++ [(rdI l).2.1]) (rdI l).2.2
   rw[List.length_append] at this
   simp at this;omega
  ·simp
theorem rdIs_lenL (l:List Int):(rdIs l).2.1.length≤l.length:=by
 have h1:=rdL_len l
 unfold rdIs
 split
 ·simp
 ·have h2:=readA_lenL (rdL l).2.1.toNat [] (rdL l).2.2
  rcases rdL_err l with h | ⟨h,h3⟩
  ·have:=rdL_le l h
   simp at h2;omega
  ·rw[h3];simp[readA]
theorem decode_any (B:Nat→Prop)(A:Option Addr)(c:Nat)(b:List Int)(w:World)(h:Reads w B 1 A b.length (bys b))(hB:Bytes b)(hl:b.length≤1000) :
 Calls Tryz.prog 99 #[.slice A b.length c] w (ChPost (fun _=>False) (decF b).1 (decF b).2.1 (decF b).2.2 w):=by
 have h1:=h.alloc (.cells msZ 24)
 have HNr:=ħ (newReader_any B A c b _ h1 (by omega))
 have g1:Blk (w.alloc (.cells msZ 24)) w.heap.size 24 msZ:=Blk.new w 24 _
 have b1:Below w.heap.size w (w.alloc (.cells msZ 24)):=(Below.refl _ _).alloc (Nat.le_refl _) _
 have hs1:w.heap.size+1≤(w.alloc (.cells msZ 24)).heap.size:=by simp
 have hb2:=rdIs_bytes hB
 have hl2:=rdIs_len b
 have HD:=ħ (show decF b=if (rdIs b).1=0 then (if (rdIs (rdIs b).2.2).1=0 then (if (rdIs (rdIs b).2.2).2.2.length=0 then (if vB (rdIs b).2.1 (rdIs (rdIs b).2.2).2.1=true then ((rdIs b).2.1,(rdIs (rdIs b).2.2).2.1,0) else ([],[],2)) else ([],[],2)) else ([],[],(rdIs (rdIs b).2.2).1)) else ([],[],(rdIs b).1) from rfl)
 have HIs:=ħ fun p B' W' (x:RdP W' p B' b 0) (hp:¬ B' p) hBw=>ints_ok p B' b W' x hp hBw hB (by omega)
 have HIs2:=ħ fun p B' W' (x:RdP W' p B' (rdIs b).2.2 0) (hp:¬ B' p) hBw=>ints_ok p B' (rdIs b).2.2 W' x hp hBw hb2 (by omega)
 have HE1:=ħ (rdIs_err b)
 have HE2:=ħ (rdIs_err (rdIs b).2.2)
 have hol:(rdIs b).2.1.length≤1000:=Nat.le_trans (rdIs_lenL b) hl
 have hnl:(rdIs (rdIs b).2.2).2.1.length≤1000:=Nat.le_trans (rdIs_lenL _) (Nat.le_trans hl2 hl)
 generalize decF b=D at *
 generalize rdIs (rdIs b).2.2=R2 at *
 generalize rdIs b=R1 at *
 obtain ⟨e1,o,r1⟩:=R1
 obtain ⟨e2,n,r2⟩:=R2
 simp only at HD HIs HIs2 HE1 HE2 hb2 hl2 hol hnl
 clear h h1
 go_enter Tryz.func99,Tryz.ntmps99
 go_wp2_with fail
 generalize w.alloc (.cells msZ 24)=W1 at *
 refine HNr.out.mono ?_
 rintro e w2 ⟨rfl,hrd,hB2⟩
 have g2:=g1.below hB2 g1.lt
 have b2:=b1.trans (hB2.mono b1.size)
 have hs2:=hB2.size
 have hpl:W1.heap.size+1<w2.heap.size:=by obtain ⟨A1,c1,z,_⟩:=hrd;exact z.lt
 go_wp2_with fail
 refine (HIs.out _ _ w2 hrd (by omega) (fun k hk=>by omega)).mono ?_
 rintro e w3 ⟨A3,c3,rfl,r3,hrd3,hf3⟩
 simp only at r3 hrd3
 have hs3:=hf3.size
 have g3:=g2.fr hf3 (by omega)
 have b3:=b2.trans (hf3.below (B:=w.heap.size) (by omega) (fun j hj=>by omega))
 have r3':=r3.old (by omega)
 clear hrd g1 b1 g2 b2 HNr HIs
 go_wp2_with fail
 by_cases h0:e1=0
 ·subst h0
  refine (HIs2.out _ _ w3 hrd3 (by omega) (fun k hk=>by omega)).mono ?_
  rintro e w4 ⟨A4,c4,rfl,r4,hrd4,hf4⟩
  simp only at r4 hrd4
  have hs4:=hf4.size
  have g4:=g3.fr hf4 (by omega)
  have b4:=b3.trans (hf4.below (B:=w.heap.size) (by omega) (fun j hj=>by omega))
  have r34:=r3'.fr hf4 (fun j hj=>by omega)
  have m4:MR w4 (fun k=>w.heap.size≤k) ⟨A3,c3,o,A4,c4,n⟩:=⟨r34.more (fun j hj=>by omega),r4.more (fun j hj=>by omega),hol,hnl⟩
  have m5:=m4.alloc (.cells (msC ⟨A3,c3,o,A4,c4,n⟩) 24)
  have mo5:RI (w4.alloc (.cells (msC ⟨A3,c3,o,A4,c4,n⟩) 24)) (fun k=>w.heap.size+1≤k) A3 o:=(r34.more (fun j hj=>by omega)).alloc _
  have mn5:RI (w4.alloc (.cells (msC ⟨A3,c3,o,A4,c4,n⟩) 24)) (fun k=>w.heap.size+1≤k) A4 n:=(r4.more (fun j hj=>by omega)).alloc _
  have rd5:=hrd4.alloc (.cells (msC ⟨A3,c3,o,A4,c4,n⟩) 24)
  have g5:=g4.alloc (.cells (msC ⟨A3,c3,o,A4,c4,n⟩) 24)
  have b5:=b4.alloc b4.size (.cells (msC ⟨A3,c3,o,A4,c4,n⟩) 24)
  have k5:Blk (w4.alloc (.cells (msC ⟨A3,c3,o,A4,c4,n⟩) 24)) w4.heap.size 24 (msC ⟨A3,c3,o,A4,c4,n⟩):=Blk.new w4 24 _
  have HFi:=ħ (finish_any _ _ _ _ _ rd5)
  have HVa:=ħ fun q hq=>valid_b _ ⟨A3,c3,o,A4,c4,n⟩ _ m5 q hq
  clear hrd3 hrd4 r3 r3' r34 r4 g3 g4 b3 b4
  have hne:w.heap.size≠w4.heap.size:=by omega
  simp only[msC] at *
  go_wp2_with fail
  generalize w4.alloc (.cells #[.slice A3 o.length c3,.slice A4 n.length c4] 24)=W5 at *
  obtain ⟨q0,q1,q2⟩:=g5.facts
  simp only[msZ] at q1
  obtain ⟨p0,p1,p2⟩:=k5.facts
  by_cases h2:e2=0
  ·subst h2
   rw[if_pos rfl] at HFi
   by_cases h3:r2.length=0
   ·rw[if_pos h3] at HFi
    cases hv:vB o n with
    | true=>
     have HE:=ħ (show D=(o,n,0) by rw[HD.out];simp[h3,hv])
     have HVa:=ħ (HVa.out true hv)
     clear h3 hv
     go_wp2_with (first
      | (go_at_call 93;((with_reducible refine HFi.out.mono ?_);rintro e w6 ⟨rfl,rfl⟩))
      | (go_at_call 54;((with_reducible refine HVa.out.mono ?_);rintro e w7 ⟨rfl,rfl⟩)))
     refine bodyPost_ret (v:=.tuple #[msV ⟨A3,c3,o,A4,c4,n⟩,.int .i64 0]) (by simp[results,Tryz.results99,go_sem,q0,q1]) rfl ?_
     rw[HE.out]
     refine ⟨⟨A3,c3,o,A4,c4,n⟩,rfl,rfl,rfl,?_,?_⟩
     ·refine MR.alloc ?_ _
      exact ⟨((mo5.setCell (by simp) _).setCell (by simp) _).more (fun k hk=>.inr (by omega)),((mn5.setCell (by simp) _).setCell (by simp) _).more (fun k hk=>.inr (by omega)),hol,hnl⟩
     ·have:=b5.size
      repeat (first | with_reducible refine Below.alloc ?_ (by simp;omega) _ | with_reducible refine Below.setCell ?_ (by simp) _)
      exact b5
    | false=>
     have HE:=ħ (show D=([],[],2) by rw[HD.out];simp[h3,hv])
     have HVa:=ħ (HVa.out false hv)
     clear h3 hv
     go_wp2_with (first
      | (go_at_call 93;((with_reducible refine HFi.out.mono ?_);rintro e w6 ⟨rfl,rfl⟩))
      | (go_at_call 54;((with_reducible refine HVa.out.mono ?_);rintro e w7 ⟨rfl,rfl⟩)))
     refine bodyPost_ret (v:=.tuple #[msV nilM,.int .i64 2]) (by simp[results,Tryz.results99,go_sem,nilM,q0,q1]) rfl ?_
     rw[HE.out]
     refine ⟨nilM,rfl,rfl,rfl,nilMR _ _,?_⟩
     ·have:=b5.size
      repeat (first | with_reducible refine Below.alloc ?_ (by simp;omega) _ | with_reducible refine Below.setCell ?_ (by simp) _)
      exact b5
   ·rw[if_neg h3] at HFi
    have HE:=ħ (show D=([],[],2) by rw[HD.out];simp[h3])
    clear h3
    go_wp2_with (go_at_call 93;((with_reducible refine HFi.out.mono ?_);rintro e w6 ⟨rfl,rfl⟩))
    refine bodyPost_ret (v:=.tuple #[msV nilM,.int .i64 2]) (by simp[results,Tryz.results99,go_sem,nilM,q1]) rfl ?_
    rw[HE.out]
    exact ⟨nilM,rfl,rfl,rfl,nilMR _ _,(b5.setCell (by simp) _).setCell (by simp) _⟩
  ·rw[if_neg h2] at HFi
   have HE:=ħ (show D=([],[],e2) by rw[HD.out];simp[h2])
   have h2b:(e2 == 0)=false:=by simpa using h2
   clear h2
   go_wp2_with (go_at_call 93;((with_reducible refine HFi.out.mono ?_);rintro e w6 ⟨rfl,rfl⟩))
   refine bodyPost_ret (v:=.tuple #[msV nilM,.int .i64 e2]) (by simp[results,Tryz.results99,go_sem,nilM,q1]) rfl ?_
   rw[HE.out]
   exact ⟨nilM,rfl,rfl,rfl,nilMR _ _,(b5.setCell (by simp) _).setCell (by simp) _⟩
 ·have HE:=ħ (show D=([],[],e1) by rw[HD.out,if_neg h0])
  have HIe:=ħ (ints_err _ _ _ _ _ hrd3 h0)
  have rd5:=hrd3.alloc (.cells #[.slice A3 o.length c3,.slice none 0 0] 24)
  have HFi:=ħ (finish_any _ _ _ _ _ rd5)
  rw[if_neg h0] at HFi
  have g5:=g3.alloc (.cells #[.slice A3 o.length c3,.slice none 0 0] 24)
  have b5:=b3.alloc b3.size (.cells #[.slice A3 o.length c3,.slice none 0 0] 24)
  have h0b:(e1 == 0)=false:=by simpa using h0
  clear h0
  refine HIe.out.mono ?_
  rintro e w4 ⟨rfl,rfl⟩
  go_wp2_with fail
  generalize w3.alloc (.cells #[.slice A3 o.length c3,.slice none 0 0] 24)=W5 at *
  obtain ⟨q0,q1,q2⟩:=g5.facts
  simp only[msZ] at q1
  go_wp2_with (go_at_call 93;((with_reducible refine HFi.out.mono ?_);rintro e w6 ⟨rfl,rfl⟩))
  refine bodyPost_ret (v:=.tuple #[msV nilM,.int .i64 e1]) (by simp[results,Tryz.results99,go_sem,nilM,q1]) rfl ?_
  rw[HE.out]
  exact ⟨nilM,rfl,rfl,rfl,nilMR _ _,(b5.setCell (by simp) _).setCell (by simp) _⟩
end Go.Proofs.YtdfobfjpkjddpaaGreat
namespace Go.Raft
open Go.Quo Go.Wire Go.Proofs.YtdfobfjpkjddpaaGreat
section
variable {k n:Nat} {s s':Nd}
theorem Wf.mb (h:Wf k s):permB s.mb.o s.mb.n=true:=by
 unfold Nd.mb
 rcases conf_last (cf:=cfE) (c0:=s.c0) s.log with ⟨_,e⟩ | ⟨p,e,c,_,h2,h3,_⟩
 ·rw[e];exact h.pm
 ·rw[h3];exact cfE_perm h2
theorem Wf.add (h:Wf k s)(hk:k≤40000){kind:Int}{body:List Int}(ht:1≤s.term)(hm:s.term≤MT)(h1:1≤kind∧kind≤3)(hb:body.length≤200∧Bytes body):Wf (k+1) (s.add kind body):=by
 unfold Nd.add
 have hlog:(s.write s.log.length [⟨s.term,kind,body⟩]).log=s.log ++ [⟨s.term,kind,body⟩]:=by
  have:=congrArg Nd.log (add_eq s kind body)
  exact this
 refine h.write hk (Nat.le_refl _) ?_ ?_ ?_ (by simp) (by rw[hlog];simp;have:=h.cm.2;omega) (.inr (by rw[hlog];simp))
 ·intro e he
  rw[List.mem_singleton] at he
  subst he
  exact ⟨⟨ht,hm,h1.1,h1.2,hb.1,hb.2⟩,Int.le_refl _⟩
 ·intro i j a b hij ha hb
  have:=lt_len ha;have:=lt_len hb
  simp at *
  have e1:i=0:=by omega
  have e2:j=0:=by omega
  subst e1;subst e2
  simp at ha hb
  subst ha;subst hb
  exact Int.le_refl _
 ·intro e _ hee x hx
  rw[List.mem_singleton] at hx
  subst hx
  exact (h.ew e (List.mem_of_getElem? hee)).2
theorem termAt_le {L:List Ent}{n t:Int}(h:termAt L n=some t):0≤n∧n≤L.length:=by
 unfold termAt at h
 split at h
 ·cases h
 ·split at h
  ·omega
  ·obtain ⟨e,he,_⟩:=Option.map_eq_some_iff.1 h
   have:=lt_len he;omega
theorem Wf.comm (h:Wf k s):Wf k s.comm:=by
 unfold Nd.comm
 split
 ·rename_i hc
  have h1:=termAt_le hc.2
  exact h.keep ⟨rfl,rfl,rfl,rfl⟩ ⟨rfl,rfl,rfl,rfl⟩ h.ro h.ld h1 h.ti h.l9 h.nm h.lr
 ·exact h
theorem part_bytes {l:List Int}(hl:l.length≤100)(h:∀ x∈l,0≤x∧x<64):Bytes (Quo.part l):=by
 intro x hx
 unfold Quo.part at hx
 rcases List.mem_cons.1 hx with rfl | hx
 ·omega
 ·obtain ⟨y,hy,rfl⟩:=List.mem_map.1 hx
  have:=h y hy;omega
theorem r1:1≤(1:Int)∧(1:Int)≤3:=by decide
theorem r3:1≤(3:Int)∧(3:Int)≤3:=by decide
theorem lm1:-1≤(-1:Int)∧(-1:Int)<9:=by decide
theorem encM_small (o n:List Int):(encM o n).length≤200∧Bytes (encM o n):=by
 unfold encM
 split
 ·rename_i h
  have e:=encM_yes h
  unfold encM at e
  rw[if_pos h] at e
  rw[e]
  obtain ⟨l1,l2,l3⟩:=v_lens h
  have hr:=v_range h
  refine ⟨by rw[List.length_append,part_len,part_len];omega,fun x hx=>?_⟩
  rcases List.mem_append.1 hx with hx | hx
  ·exact part_bytes (by omega) (fun y hy=>hr y (.inl hy)) x hx
  ·exact part_bytes (by omega) (fun y hy=>hr y (.inr hy)) x hx
 ·exact ⟨by simp,fun x hx=>by simp at hx⟩
theorem Wf.adv (h:Wf k s)(hk:k≤40000)(ht:1≤s.term)(hm:s.term≤MT):Wf (k+1) s.adv:=by
 obtain ⟨k1,k2,k3,k4,k5,k6,k7,k8,k9⟩:=comm_same s
 have hc:=h.comm
 unfold Nd.adv
 split
 ·exact hc.more (by omega)
 ·split
  ·have:=encM_small s.mb.n []
   exact hc.add hk (by rw[k4];exact ht) (by rw[k4];exact hm) ⟨by decide,by decide⟩ this
  ·split
   ·exact hc.more (by omega)
   ·exact (hc.keep (s':={ s.comm with role:=1,ld:=-1 }) ⟨rfl,rfl,rfl,rfl⟩ ⟨rfl,rfl,rfl,rfl⟩ r1 lm1 hc.cm hc.ti hc.l9 hc.nm (fun hh=>absurd (show (1:Int)=3 from hh) (by decide))).more (by omega)
theorem gd_rep2 {m j:Nat}{v:Int}(h:j<m):gd (List.replicate m v) j=v:=by
 rw[gd_get (by simpa using h)];simp
theorem Wf.lead0 (h:Wf k s):Wf k s.lead0:=by
 have:=h.ln
 have hid:=h.id
 refine h.keep ⟨rfl,rfl,rfl,rfl⟩ ⟨rfl,rfl,rfl,rfl⟩ r3 ⟨by show -1≤s.id;omega,hid.2⟩ h.cm h.ti ⟨h.l9.1,by simp[Nd.lead0],by simp[Nd.lead0]⟩ ?_ ?_
 ·intro j hj
  show (0≤gd (List.replicate 9 _) j∧gd (List.replicate 9 _) j≤_)∧(0≤gd (List.replicate 9 _) j∧gd (List.replicate 9 _) j≤_)
  rw[gd_rep2 hj,gd_rep2 hj];omega
 ·intro _ j hj
  show (1≤gd (List.replicate 9 _) j∧gd (List.replicate 9 _) j≤_)∧gd (List.replicate 9 _) j≤_
  rw[gd_rep2 hj,gd_rep2 hj];omega
theorem Wf.hb (h:Wf k s){t:Int}(ht:0≤t∧t≤MT):Wf k { s with hb:=t }:=h.keep ⟨rfl,rfl,rfl,rfl⟩ ⟨rfl,rfl,rfl,rfl⟩ h.ro h.ld h.cm ⟨h.ti.1,ht,h.ti.2.2⟩ h.l9 h.nm h.lr
theorem apps_small (h:Wf k s):∀ x∈s.apps,MW k x:=by
 intro x hx
 obtain ⟨tt,_,rfl⟩:=List.mem_map.1 hx
 exact ⟨h.tk,fun e he=>(h.ew e (List.mem_of_mem_drop (List.mem_of_mem_take he))).1⟩
theorem app_small (h:Wf k s)(tt:Int):MW k (s.app tt):=⟨h.tk,fun e he=>(h.ew e (List.mem_of_mem_drop (List.mem_of_mem_take he))).1⟩
theorem msg_small (h:Wf k s)(kind tt p pt c:Int)(g:Bool):MW k (s.msg kind tt p pt c g []):=⟨h.tk,fun e he=>by cases he⟩
def WOut (k:Nat)(r:Nd × List Msg):Prop:=Wf k r.1∧∀ m∈r.2,MW k m
theorem WOut.more {r:Nd × List Msg}(h:WOut k r)(hk:k≤n):WOut n r:=⟨h.1.more hk,fun m hm=>⟨by have:=(h.2 m hm).t;omega,(h.2 m hm).e⟩⟩
theorem WOut.none (h:Wf k s):WOut k (s,[]):=⟨h,fun m hm=>by cases hm⟩
theorem WOut.one (h:Wf k s){m:Msg}(hm:MW k m):WOut k (s,[m]):=⟨h,fun x hx=>by rw[List.mem_singleton] at hx;subst hx;exact hm⟩
theorem Wf.prop (h:Wf k s)(hk:k≤39999){kind:Int}{body:List Int}(ht:1≤s.term)(hm:s.term≤MT)(h1:1≤kind∧kind≤3)(hb:body.length≤200∧Bytes body):WOut (k+2) (s.prop kind body):=by
 have h2:=(h.add (by omega) ht hm h1 hb).adv (by omega) (by rw[(add_same s kind body).1];exact ht) (by rw[(add_same s kind body).1];exact hm)
 exact ⟨h2,apps_small h2⟩
theorem Wf.lead (h:Wf k s)(hk:k≤39999)(ht:1≤s.term)(hm:s.term≤MT){t:Int}(hti:0≤t∧t≤MT):WOut (k+2) (s.lead t):=by
 have h2:=(h.lead0).prop hk (kind:=1) (body:=[]) ht hm ⟨by decide,by decide⟩ ⟨by simp,fun x hx=>by simp at hx⟩
 exact ⟨h2.1.hb hti,h2.2⟩
theorem vote_rec {t j:Int}(h1:1≤t∧t≤MT)(h2:0≤j∧j<9):recOk (86,za t ++ za j):=by
 unfold MT at h1
 have l1:=encI_len (n:=t) (by omega) (by omega)
 have l2:=encI_len (n:=j) (by omega) (by omega)
 refine ⟨fun x hx=>?_,?_,show (0:Int)≤86 by decide,show (86:Int)<256 by decide⟩
 ·rcases List.mem_append.1 hx with hx | hx <;> exact encU_bytes' _ x hx
 ·show (za t ++ za j).length≤300
  rw[List.length_append];omega
theorem term_rec {t:Int}(h1:1≤t∧t≤MT):recOk (84,za t):=by
 unfold MT at h1
 have l1:=encI_len (n:=t) (by omega) (by omega)
 exact ⟨encU_bytes' _,by show (za t).length≤300;omega,show (0:Int)≤84 by decide,show (84:Int)<256 by decide⟩
theorem lStep_other {x:Int × List Int}(h:x.1≠69)(L:List Ent):lStep x L=some L:=by unfold lStep;rw[if_neg h]
theorem validT_y {t:Int}(h:1≤t∧t≤MT):¬ validT t=false:=by unfold validT;unfold MT at h;simp;omega
theorem validN_y {t:Int}(h:0≤t∧t<9):¬ validN t=false:=by unfold validN;simp;omega
theorem Wf.voteIn (h:Wf k s){t j:Int}(ht:1≤t∧t≤MT)(htk:t≤k+1)(hj:0≤j∧j<9)(hge:s.term≤t)(hno:¬ (t=s.term∧0≤s.voted)):Wf (k+1) { s with recs:=s.recs ++ [(86,za t ++ za j)],term:=t,voted:=j }:=by
 have hln:=h.ln
 have hrn:=h.rn
 refine ⟨h.id,h.wb,h.pm,by show 0≤t;omega,by show t≤_;omega,⟨by show -1≤j;omega,hj.2⟩,fun e he=>⟨(h.ew e he).1,by have:=(h.ew e he).2;show e.term≤t;omega⟩,h.so,by show s.log.length≤_;omega,h.ro,h.ld,h.cm,h.ti,h.l9,fun j hj=>by have:=h.nm j hj;show (0≤gd s.nx j∧gd s.nx j≤_)∧(0≤gd s.mt j∧gd s.mt j≤_);omega,h.lr,?_,?_,?_,?_⟩
 ·intro x hx
  rcases List.mem_append.1 hx with hx | hx
  ·exact h.rk x hx
  ·rw[List.mem_singleton] at hx;subst hx;exact vote_rec ht hj
 ·show (s.recs ++ [_]).length≤_
  rw[List.length_append,List.length_singleton];omega
 ·show rAll (s.recs ++ [_]) (0,-1)=some (t,j)
  rw[rAll_append,h.rv]
  show (rStep (86,za t ++ za j) (s.term,s.voted)).bind (rAll [])=_
  have:rStep (86,za t ++ za j) (s.term,s.voted)=some (t,j):=by
   unfold rStep
   rw[if_neg (show ¬ (86:Int)=84 by decide),if_pos rfl]
   exact rVote_enc (validT_y ht) (validN_y hj) (by show ¬ t<s.term;omega) hno
  rw[this];rfl
 ·show lAll (s.recs ++ [_]) []=some s.log
  rw[lAll_append,h.rl]
  show (lStep (86,za t ++ za j) s.log).bind (lAll [])=_
  rw[lStep_other (show ¬ (86:Int)=69 by decide)];rfl
theorem Wf.enter (h:Wf k s){t:Int}(ht:1≤t∧t≤MT)(htk:t≤k+1)(hlt:s.term<t):Wf (k+1) (s.enter t):=by
 have hln:=h.ln
 have hrn:=h.rn
 refine ⟨h.id,h.wb,h.pm,by show 0≤t;omega,by show t≤_;omega,⟨by show (-1:Int)≤-1;omega,by show (-1:Int)<9;omega⟩,fun e he=>⟨(h.ew e he).1,by have:=(h.ew e he).2;show e.term≤t;omega⟩,h.so,by show s.log.length≤_;omega,⟨by show (1:Int)≤1;omega,by show (1:Int)≤3;omega⟩,⟨by show (-1:Int)≤-1;omega,by show (-1:Int)<9;omega⟩,h.cm,h.ti,h.l9,fun j hj=>by have:=h.nm j hj;show (0≤gd s.nx j∧gd s.nx j≤_)∧(0≤gd s.mt j∧gd s.mt j≤_);omega,fun hh=>absurd (show (1:Int)=3 from hh) (by decide),?_,?_,?_,?_⟩
 ·intro x hx
  have hx':x∈s.recs ++ [(84,za t)]:=hx
  rcases List.mem_append.1 hx' with hx | hx
  ·exact h.rk x hx
  ·rw[List.mem_singleton] at hx;subst hx;exact term_rec ht
 ·show (s.recs ++ [_]).length≤_
  rw[List.length_append,List.length_singleton];omega
 ·show rAll (s.recs ++ [_]) (0,-1)=some (t,-1)
  rw[rAll_append,h.rv]
  show (rStep (84,za t) (s.term,s.voted)).bind (rAll [])=_
  have:rStep (84,za t) (s.term,s.voted)=some (t,-1):=by
   unfold rStep
   rw[if_pos rfl]
   exact rTerm_enc (validT_y ht) (by show ¬ t≤s.term;omega)
  rw[this];rfl
 ·show lAll (s.recs ++ [_]) []=some s.log
  rw[lAll_append,h.rl]
  show (lStep (84,za t) s.log).bind (lAll [])=_
  rw[lStep_other (show ¬ (84:Int)=69 by decide)];rfl
theorem Wf.start0 (h:Wf k s)(hm:s.term+1≤MT){t:Int}(hti:0≤t∧t≤MT):Wf (k+1) (s.start0 t):=by
 have h0:=h.t0
 have hk:=h.tk
 have h1:=h.voteIn (t:=s.term+1) (j:=s.id) ⟨by omega,hm⟩ (by omega) h.id (by omega) (by omega)
 exact h1.keep ⟨rfl,rfl,rfl,rfl⟩ ⟨rfl,rfl,rfl,rfl⟩ ⟨by show (1:Int)≤2;omega,by show (2:Int)≤3;omega⟩ ⟨by show (-1:Int)≤-1;omega,by show (-1:Int)<9;omega⟩ h.cm ⟨hti,h.ti.2⟩ ⟨by simp[Nd.start0],h.l9.2⟩ h1.nm (fun hh=>absurd (show (2:Int)=3 from hh) (by decide))
theorem Wf.start (h:Wf k s)(hk:k≤39990){t:Int}(hti:0≤t∧t≤MT):WOut (k+3) (s.start t):=by
 unfold Nd.start
 split
 ·exact (WOut.none h).more (by omega)
 ·rename_i hm
  have h0:=h.t0
  have h1:=h.start0 (by omega) hti
  split
  ·have:=h1.lead (by omega) (by show 1≤s.term+1;omega) (by show s.term+1≤MT;omega) hti
   exact this.more (by omega)
  ·refine WOut.more (k:=k+1) ⟨h1,fun m hm=>?_⟩ (by omega)
   obtain ⟨x,_,rfl⟩:=List.mem_map.1 hm
   exact msg_small h1 _ _ _ _ _ _
theorem tick_range (h:Wf k s)(now:Int):0≤s.tickT now∧s.tickT now≤MT:=by
 have:=h.ti.2.2
 unfold Nd.tickT MT at *
 omega
theorem Wf.clock (h:Wf k s)(now:Int):Wf k (s.clock now):=h.keep ⟨rfl,rfl,rfl,rfl⟩ ⟨rfl,rfl,rfl,rfl⟩ h.ro h.ld h.cm ⟨h.ti.1,h.ti.2.1,tick_range h now⟩ h.l9 h.nm h.lr
theorem Wf.tick1 (h:Wf k s)(hk:k≤39990){t:Int}(hti:0≤t∧t≤MT):WOut (k+3) (s.tick1 t):=by
 unfold Nd.tick1
 split
 ·split
  ·exact WOut.more (k:=k) ⟨h.hb hti,apps_small h⟩ (by omega)
  ·exact (WOut.none h).more (by omega)
 ·split
  ·exact h.start hk hti
  ·exact (WOut.none h).more (by omega)
theorem Wf.tick (h:Wf k s)(hk:k≤39990)(now:Int):WOut (k+3) (s.tick now):=(h.clock now).tick1 hk (tick_range h now)
theorem Wf.propose (h:Wf k s)(hk:k≤39990)(ht:s.role=3→1≤s.term){body:List Int}(hb:body.length≤200∧Bytes body):WOut (k+3) (s.propose body):=by
 have htk:=h.tk
 unfold Nd.propose
 split
 ·exact (WOut.none h).more (by omega)
 ·rename_i hr
  exact (h.prop (by omega) (ht (by simpa using hr)) (by unfold MT;omega) ⟨by decide,by decide⟩ hb).more (by omega)
theorem Wf.change (h:Wf k s)(hk:k≤39990)(ht:s.role=3→1≤s.term)(next:List Int):WOut (k+3) (s.change next):=by
 have htk:=h.tk
 unfold Nd.change
 split
 ·exact (WOut.none h).more (by omega)
 ·rename_i hr
  split
  ·exact (WOut.none h).more (by omega)
  ·split
   ·exact (h.prop (by omega) (ht (by simpa using hr)) (by unfold MT;omega) ⟨by decide,by decide⟩ (encM_small _ _)).more (by omega)
   ·exact (WOut.none h).more (by omega)
theorem Wf.again (h:Wf k s)(now:Int):Wf k (s.again now):=by
 have h0:0≤min (max now 0) MT∧min (max now 0) MT≤MT:=by unfold MT;omega
 refine h.keep ⟨rfl,rfl,rfl,rfl⟩ ⟨rfl,rfl,rfl,rfl⟩ r1 lm1 ⟨Int.le_refl 0,by show (0:Int)≤_;omega⟩ ⟨h0,⟨Int.le_refl 0,show (0:Int)≤MT by decide⟩,h0⟩ ⟨by simp[Nd.again],by simp[Nd.again],by simp[Nd.again]⟩ ?_ (fun hh=>absurd (show (1:Int)=3 from hh) (by decide))
 intro j hj
 show (0≤gd (List.replicate 9 _) j∧gd (List.replicate 9 _) j≤_)∧(0≤gd (List.replicate 9 _) j∧gd (List.replicate 9 _) j≤_)
 rw[gd_rep2 hj];omega
end
section
variable {k n:Nat} {s s':Nd}
theorem Wf.requested (h:Wf k s){m:Msg}(h0:0≤m.frm∧m.frm<9)(ht:1≤s.term∧s.term≤MT){t:Int}(hti:0≤t∧t≤MT):WOut (k+1) (s.requested m t):=by
 unfold Nd.requested
 split
 ·rename_i hc
  have hg:Wf (k+1) (s.grant0 m t):=by
   unfold Nd.grant0
   split
   ·exact (h.keep (s':={ s with since:=t }) ⟨rfl,rfl,rfl,rfl⟩ ⟨rfl,rfl,rfl,rfl⟩ h.ro h.ld h.cm ⟨hti,h.ti.2⟩ h.l9 h.nm h.lr).more (by omega)
   ·rename_i hv
    have htk:=h.tk
    have h1:=h.voteIn (t:=s.term) (j:=m.frm) ht (by omega) h0 (Int.le_refl _) (by omega)
    exact h1.keep (s':={ s with recs:=s.recs ++ [(86,za s.term ++ za m.frm)],voted:=m.frm,since:=t }) ⟨rfl,rfl,rfl,rfl⟩ ⟨rfl,rfl,rfl,rfl⟩ h.ro h.ld h.cm ⟨hti,h.ti.2⟩ h.l9 h1.nm h.lr
  have hkk:=h.tk
  exact ⟨hg,fun x hx=>by rw[List.mem_singleton] at hx;subst hx;exact ⟨by show s.term≤_;omega,fun e he=>by cases he⟩⟩
 ·exact (WOut.one h (msg_small h _ _ _ _ _ _)).more (by omega)
theorem Wf.receive (h:Wf k s)(hk:k≤39990){m:Msg}(hm:MW k m)(hv:¬ Nd.validM m=false)(ht:m.term=s.term){t:Int}(hti:0≤t∧t≤MT):WOut (k+1) (s.receive m t):=by
 have hv':Nd.validM m=true:=by simpa using hv
 unfold Nd.validM Nd.inR at hv'
 simp only[Bool.and_eq_true,Bool.or_eq_true,decide_eq_true_eq,Bool.not_eq_true',decide_eq_false_iff_not] at hv'
 obtain ⟨⟨⟨⟨⟨⟨⟨⟨⟨⟨⟨⟨⟨v1,v2⟩,v3⟩,v4⟩,v5⟩,v6⟩,v7⟩,v8⟩,⟨v9,v9'⟩⟩,v10⟩,⟨v11,v11'⟩⟩,v12⟩,v13⟩,v14⟩:=hv'
 obtain ⟨w1,w2⟩:=validEs_spec _ _ v14
 unfold Nd.receive
 split
 ·rename_i hmt
  unfold Nd.matchesB at hmt
  rw[Bool.and_eq_true,decide_eq_true_eq] at hmt
  obtain ⟨hm1,hm2⟩:=hmt
  obtain ⟨p,hp⟩:∃ p:Nat,m.prev=p:=⟨m.prev.toNat,by omega⟩
  have hpl:=termAt_le hm1
  rw[hp,termAt_nat] at hm1
  rw[hp] at hpl hm2
  have htn:m.prev.toNat=p:=by omega
  simp only
  rw[htn]
  have hple:p≤s.log.length:=by omega
  have hpres:=pres_le s.log m.es p
  have hplen:p+m.es.length≤(s.write p m.es).log.length∧s.commit≤(s.write p m.es).log.length:=by
   rw[write_log]
   have hcm:=h.cm
   split
   ·rename_i hq
    refine ⟨?_,hcm.2⟩
    rcases Nat.eq_zero_or_pos m.es.length with h0 | h0
    ·omega
    ·have:=pres_at s.log m.es p (m.es.length - 1) (by omega)
     rw[List.getElem?_eq_getElem (by omega:m.es.length - 1<m.es.length)] at this
     have:=(List.getElem?_eq_some_iff.1 this).1
     omega
   ·rename_i hq
    have hqp:p+pres s.log p m.es≤s.log.length:=by
     rcases Nat.eq_zero_or_pos (pres s.log p m.es) with h0 | h0
     ·omega
     ·have:=pres_at s.log m.es p (pres s.log p m.es - 1) (by omega)
      rw[List.getElem?_eq_getElem (by omega:pres s.log p m.es - 1<m.es.length)] at this
      have:=(List.getElem?_eq_some_iff.1 this).1
      omega
    have hL:(s.log.take (p+pres s.log p m.es) ++ m.es.drop (pres s.log p m.es)).length=p+m.es.length:=by simp;omega
    rw[hL]
    refine ⟨Nat.le_refl _,?_⟩
    rw[List.all_eq_true] at hm2
    have h1:=hm2 (pres s.log p m.es) (List.mem_range.2 (by omega))
    have h2:=pres_stop s.log m.es p (by omega)
    simp only[Bool.or_eq_true,decide_eq_true_eq,Int.toNat_natCast] at h1
    rcases h1 with h1 | h1
    ·omega
    ·exact absurd h1 h2
  have hcm:=h.cm
  have hwr:=h.keep (s':={ s with role:=1,ld:=m.frm,since:=t }) ⟨rfl,rfl,rfl,rfl⟩ ⟨rfl,rfl,rfl,rfl⟩ r1 ⟨by show -1≤m.frm;omega,v5⟩ h.cm ⟨hti,h.ti.2⟩ h.l9 h.nm (fun hh=>absurd (show (1:Int)=3 from hh) (by decide))
  have elog:(Nd.write { s with role:=1,ld:=m.frm,since:=t } p m.es).log=(s.write p m.es).log:=by rw[write_log,write_log]
  have hw:=hwr.write (p:=p) (es:=m.es) (by omega) hple (fun e he=>⟨hm.e e he,by have:=(w1 e he).2.1;show e.term≤s.term;omega⟩) w2 (fun e h0 he x hx=>by
   rw[if_neg (by omega),he] at hm1
   have:e.term=m.pterm:=by simpa using hm1
   have:=(w1 x hx).1;omega) v12 (by rw[elog];exact hplen.2) (.inl (by show ¬ (1:Int)=3;decide))
  have hfin:=hw.keep (s':={ (s.write p m.es) with role:=1,ld:=m.frm,since:=t,commit:=max s.commit (min m.commit (m.prev+m.es.length)) })
   (by unfold Nd.write;dsimp only;split <;> exact ⟨rfl,rfl,rfl,rfl⟩) (by unfold Nd.write;dsimp only;split <;> exact ⟨rfl,rfl,rfl,rfl⟩) r1 ⟨by show -1≤m.frm;omega,v5⟩
   (by
    rw[elog]
    show 0≤max s.commit (min m.commit (m.prev+m.es.length))∧max s.commit (min m.commit (m.prev+m.es.length))≤(s.write p m.es).log.length
    omega)
   (by
    have h1:=hw.ti
    obtain ⟨_,b,c⟩:=h1
    refine ⟨hti,?_⟩
    have e1:(Nd.write { s with role:=1,ld:=m.frm,since:=t } p m.es).hb=s.hb:=by unfold Nd.write;dsimp only;split <;> rfl
    have e2:(Nd.write { s with role:=1,ld:=m.frm,since:=t } p m.es).latest=s.latest:=by unfold Nd.write;dsimp only;split <;> rfl
    have e3:(s.write p m.es).hb=s.hb:=by unfold Nd.write;split <;> rfl
    have e4:(s.write p m.es).latest=s.latest:=by unfold Nd.write;split <;> rfl
    show (0≤(s.write p m.es).hb∧(s.write p m.es).hb≤MT)∧0≤(s.write p m.es).latest∧(s.write p m.es).latest≤MT
    rw[e3,e4];exact h.ti.2)
   (by
    obtain ⟨b1,b2,b3,b4,b5,b6,b7,b8⟩:=write_same s p m.es
    show (s.write p m.es).vs.length=9∧(s.write p m.es).nx.length=9∧(s.write p m.es).mt.length=9
    rw[b5,b6,b7];exact h.l9)
   (by
    obtain ⟨b1,b2,b3,b4,b5,b6,b7,b8⟩:=write_same s p m.es
    intro j hj
    show (0≤gd (s.write p m.es).nx j∧gd (s.write p m.es).nx j≤_)∧(0≤gd (s.write p m.es).mt j∧gd (s.write p m.es).mt j≤_)
    rw[b6,b7]
    have:=h.nm j hj;omega)
   (fun hh=>absurd (show (1:Int)=3 from hh) (by decide))
  exact WOut.one hfin ⟨by show s.term≤_;have:=h.tk;omega,fun e he=>by cases he⟩
 ·have hx:=h.keep (s':={ s with role:=1,ld:=m.frm,since:=t }) ⟨rfl,rfl,rfl,rfl⟩ ⟨rfl,rfl,rfl,rfl⟩ r1 ⟨by show -1≤m.frm;omega,v5⟩ h.cm ⟨hti,h.ti.2⟩ h.l9 h.nm (fun hh=>absurd (show (1:Int)=3 from hh) (by decide))
  exact (WOut.one hx (msg_small h _ _ _ _ _ _)).more (by omega)
theorem Wf.back (h:Wf k s)(hr:s.role=3){m:Msg}(h0:0≤m.frm∧m.frm<9):Wf k (s.back m):=by
 obtain ⟨l1,l2,l3⟩:=h.l9
 have hl:=h.ln
 refine h.keep ⟨rfl,rfl,rfl,rfl⟩ ⟨rfl,rfl,rfl,rfl⟩ h.ro h.ld h.cm h.ti ⟨l1,by simp[Nd.back,l2],l3⟩ ?_ ?_
 ·intro j hj
  show (0≤gd (s.nx.set _ _) j∧gd (s.nx.set _ _) j≤_)∧(0≤gd s.mt j∧gd s.mt j≤_)
  rw[gd_set' (by omega)]
  have:=h.nm j hj
  by_cases hj2:j=m.frm.toNat
  ·rw[if_pos hj2]
   rw[←hj2]
   omega
  ·rw[if_neg hj2];exact this
 ·intro _ j hj
  show (1≤gd (s.nx.set _ _) j∧gd (s.nx.set _ _) j≤_)∧gd s.mt j≤_
  rw[gd_set' (by omega)]
  have:=h.lr hr j hj
  by_cases hj2:j=m.frm.toNat
  ·rw[if_pos hj2]
   rw[←hj2]
   omega
  ·rw[if_neg hj2];exact this
theorem Wf.seen (h:Wf k s)(hr:s.role=3){m:Msg}(h0:0≤m.frm∧m.frm<9)(hp:m.prev≤s.log.length):Wf k (s.seen m):=by
 obtain ⟨l1,l2,l3⟩:=h.l9
 have hl:=h.ln
 refine h.keep ⟨rfl,rfl,rfl,rfl⟩ ⟨rfl,rfl,rfl,rfl⟩ h.ro h.ld h.cm h.ti ⟨l1,by simp[Nd.seen,l2],by simp[Nd.seen,l3]⟩ ?_ ?_
 ·intro j hj
  show (0≤gd (s.nx.set _ _) j∧gd (s.nx.set _ _) j≤_)∧(0≤gd (s.mt.set _ _) j∧gd (s.mt.set _ _) j≤_)
  rw[gd_set' (by omega),gd_set' (by omega)]
  have:=h.nm j hj
  have h3:=h.lr hr j hj
  by_cases hj2:j=m.frm.toNat
  ·rw[if_pos hj2,if_pos hj2]
   rw[←hj2]
   omega
  ·rw[if_neg hj2,if_neg hj2];exact this
 ·intro _ j hj
  show (1≤gd (s.nx.set _ _) j∧gd (s.nx.set _ _) j≤_)∧gd (s.mt.set _ _) j≤_
  rw[gd_set' (by omega),gd_set' (by omega)]
  have:=h.lr hr j hj
  have h3:=h.nm j hj
  by_cases hj2:j=m.frm.toNat
  ·rw[if_pos hj2,if_pos hj2]
   rw[←hj2]
   omega
  ·rw[if_neg hj2,if_neg hj2];exact this
theorem Wf.replied (h:Wf k s)(hk:k≤39990)(hr:s.role=3){m:Msg}(h0:0≤m.frm∧m.frm<9)(ht:1≤s.term∧s.term≤MT):WOut (k+1) (s.replied m):=by
 unfold Nd.replied
 split
 ·have hb:=h.back hr h0
  exact (WOut.one hb (app_small hb _)).more (by omega)
 ·split
  ·exact (WOut.none h).more (by omega)
  ·have ha:=(h.seen hr h0 (by omega)).adv (by omega) ht.1 ht.2
   split
   ·exact WOut.none ha
   ·split
    ·exact ⟨ha,apps_small ha⟩
    ·split
     ·exact WOut.one ha (app_small ha _)
     ·exact WOut.none ha
theorem Wf.step2 (h:Wf k s)(hk:k≤39980){m:Msg}(hm:MW k m)(hv:¬ Nd.validM m=false)(ht:m.term=s.term){t:Int}(hti:0≤t∧t≤MT):WOut (k+3) (s.step2 m t):=by
 obtain ⟨v1,v2,v3,v4,v5,v6,v7,v8,v9⟩:=validM_r hv
 have htk:=h.tk
 have htt:1≤s.term∧s.term≤MT:=by unfold MT;omega
 unfold Nd.step2
 split
 ·exact (h.requested ⟨v4,v5⟩ htt hti).more (by omega)
 ·split
  ·split
   ·have hg:Wf k (s.gotVote m):=h.keep ⟨rfl,rfl,rfl,rfl⟩ ⟨rfl,rfl,rfl,rfl⟩ h.ro h.ld h.cm h.ti ⟨by simp[Nd.gotVote,h.l9.1],h.l9.2⟩ h.nm h.lr
    split
    ·exact (hg.lead (by omega) htt.1 htt.2 hti).more (by omega)
    ·exact (WOut.none hg).more (by omega)
   ·exact (WOut.none h).more (by omega)
  ·split
   ·split
    ·exact (h.receive (by omega) hm hv ht hti).more (by omega)
    ·exact (WOut.none h).more (by omega)
   ·split
    ·rename_i hc
     exact (h.replied (by omega) hc.1 ⟨v4,v5⟩ htt).more (by omega)
    ·exact (WOut.none h).more (by omega)
theorem Wf.step1 (h:Wf k s)(hk:k≤39970){m:Msg}(hm:MW k m){t:Int}(hti:0≤t∧t≤MT):WOut (k+4) (s.step1 m t):=by
 have hmt:=hm.t
 unfold Nd.step1
 split
 ·exact (WOut.none h).more (by omega)
 ·rename_i hv
  have hv1:¬ Nd.validM m=false:=fun hh=>hv (.inl hh)
  obtain ⟨v1,v2,v3,v4,v5,v6,v7,v8,v9⟩:=validM_r hv1
  split
  ·exact (WOut.none h).more (by omega)
  ·have hl:Wf (k+1) (s.later m):=by
    unfold Nd.later
    split
    ·rename_i hlt;exact h.enter ⟨v9,by unfold MT;omega⟩ (by omega) hlt
    ·exact h.more (by omega)
   split
   ·refine WOut.more (k:=k+1) ⟨hl,fun x hx=>?_⟩ (by omega)
    unfold Nd.refuse at hx
    split at hx
    ·rw[List.mem_singleton] at hx;subst hx;exact msg_small hl _ _ _ _ _ _
    ·split at hx
     ·rw[List.mem_singleton] at hx;subst hx;exact msg_small hl _ _ _ _ _ _
     ·cases hx
   ·rename_i hnl
    have hte:m.term=(s.later m).term:=by
     unfold Nd.later at hnl⊢
     split
     ·rfl
     ·rename_i hlt;rw[if_neg hlt] at hnl;omega
    exact (hl.step2 (by omega) ⟨by omega,hm.e⟩ hv1 hte hti).more (by omega)
theorem Wf.step (h:Wf k s)(hk:k≤39970){m:Msg}(hm:MW k m)(now:Int):WOut (k+4) (s.step m now):=(h.clock now).step1 hk hm (tick_range h now)
theorem Wf.new {id wait beat now:Int}{c0:Mb}(h1:0≤id∧id<9)(h2:1≤wait∧wait≤MT∧1≤beat∧beat≤MT)(h3:permB c0.o c0.n=true):Wf 0 (Nd.new id wait beat now c0):=by
 have h0:0≤min (max now 0) MT∧min (max now 0) MT≤MT:=by unfold MT;omega
 have hmt0:(0:Int)≤MT:=by decide
 exact {
  id:=h1
  wb:=h2
  pm:=h3
  t0:=Int.le_refl 0
  tk:=Int.le_refl 0
  vo:=lm1
  ew:=fun e he=>by cases he
  so:=fun i j a b _ ha _=>(nil_at ha).elim
  ln:=Nat.le_refl 0
  ro:=r1
  ld:=lm1
  cm:=⟨Int.le_refl 0,Int.le_refl 0⟩
  ti:=⟨h0,⟨Int.le_refl 0,hmt0⟩,h0⟩
  l9:=⟨by simp[Nd.new],by simp[Nd.new],by simp[Nd.new]⟩
  nm:=fun j hj=>by
   show (0≤gd (List.replicate 9 0) j∧gd (List.replicate 9 0) j≤_)∧(0≤gd (List.replicate 9 0) j∧gd (List.replicate 9 0) j≤_)
   rw[gd_rep2 hj];omega
  lr:=fun hh=>absurd (show (1:Int)=3 from hh) (by decide)
  rk:=fun x hx=>by cases hx
  rn:=Nat.le_refl 0
  rv:=rfl
  rl:=rfl }
end
end Go.Raft
