import Derived.Test.YtdfobfjpkjddpaaGreatUG4
set_option linter.unusedVariables false
set_option linter.unusedSimpArgs false
set_option maxRecDepth 10000
set_option maxHeartbeats 1000000
namespace Go.Proofs.YtdfobfjpkjddpaaGreat
open Go.RowKit Go.Own Go.Quo
structure Ms where
 A:Option Addr
 c:Nat
 o:List Int
 A':Option Addr
 c':Nat
 n:List Int
abbrev msC (m:Ms):Array Value:=#[.slice m.A m.o.length m.c,.slice m.A' m.n.length m.c']
abbrev msV (m:Ms):Value:=.agg #[.slice m.A m.o.length m.c,.slice m.A' m.n.length m.c']
structure MR (w:World) (B:Nat→Prop) (m:Ms):Prop where
 o:RI w B m.A m.o
 n:RI w B m.A' m.n
 ol:m.o.length≤1000
 nl:m.n.length≤1000
theorem MR.below {w w':World}{B:Nat→Prop}{m:Ms}(h:MR w B m)(hb:Below w.heap.size w w'):MR w' B m:=
 ⟨h.o.fr (S:=fun _=>False) (Fr.of_below hb) (fun _ _=>id),h.n.fr (S:=fun _=>False) (Fr.of_below hb) (fun _ _=>id),h.ol,h.nl⟩
theorem MR.alloc {w:World}{B:Nat→Prop}{m:Ms}(h:MR w B m)(o:Obj):MR (w.alloc o) B m:=⟨h.o.alloc o,h.n.alloc o,h.ol,h.nl⟩
theorem memberList_b (B:Nat→Prop)(A:Option Addr)(c:Nat)(l:List Int)(w:World)(h:RI w B A l)(hm:l.length≤1000)(q:Bool)(hq:mlB l=q) :
 Calls Tryz.prog 85 #[.slice A l.length c] w fun e w'=>e=.returned (.bool q)∧w=w':=hq ▸ memberList_any B A c l w h hm
theorem rmembers_b (B:Nat→Prop)(A:Option Addr)(c:Nat)(l:List Int)(w:World)(h:RI w B A l)(hm:l.length≤1000)(q:Bool)(hq:mlB l=q) :
 Calls Tryz.prog 84 #[.slice A l.length c] w fun e w'=>e=.returned (.bool q)∧w=w':=hq ▸ rmembers_any B A c l w h hm
theorem valid_any (B:Nat→Prop)(m:Ms)(w:World)(h:MR w B m) :
 Calls Tryz.prog 54 #[msV m] w fun e w'=>e=.returned (.bool (vB m.o m.n))∧w.alloc (.cells (msC m) 24)=w':=by
 have h1:=h.alloc (.cells (msC m) 24)
 cases ho:mlB m.o with
 | false=>
  have HO:=ħ (memberList_b B m.A m.c m.o _ h1.o h.ol false ho)
  have HV:Hid (vB m.o m.n=false):=by show _=_;simp[vB,ho]
  clear ho h h1
  go_enter Tryz.func54,Tryz.ntmps54
  go_wp2_with (go_at_call 85;((with_reducible refine HO.out.mono ?_);rintro e w1 ⟨rfl,rfl⟩))
  go_ret
  exact ⟨by rw[HV.out];rfl,rfl⟩
 | true=>
  have HO:=ħ (memberList_b B m.A m.c m.o _ h1.o h.ol true ho)
  by_cases hn:m.n.length=0
  ·have HV:Hid (vB m.o m.n=true):=by show _=_;simp only[vB,ho];rw[decide_eq_true hn];rfl
   have hn':((m.n.length:Int) == 0)=true:=by rw[beq_iff_eq];omega
   have hn'':(m.n.length == 0)=true:=by simp[hn]
   have HNN:=ħ hn
   clear ho h h1 hn
   go_enter Tryz.func54,Tryz.ntmps54
   go_wp2_with (go_at_call 85;((with_reducible refine HO.out.mono ?_);rintro e w1 ⟨rfl,rfl⟩))
   go_ret
   exact ⟨by rw[HV.out];rfl,rfl⟩
  ·have hn':((m.n.length:Int) == 0)=false:=by rw[beq_eq_false_iff_ne];omega
   have hn'':(m.n.length == 0)=false:=by simp[hn]
   have HN:=ħ (memberList_b B m.A' m.c' m.n _ h1.n h.nl _ rfl)
   have HV:Hid (vB m.o m.n=mlB m.n):=by show _=_;simp only[vB,ho];rw[decide_eq_false hn];rfl
   clear ho h h1 hn
   generalize mlB m.n=q at HN HV
   go_enter Tryz.func54,Tryz.ntmps54
   go_wp2_with (first
    | (go_at_call 85;((with_reducible refine HO.out.mono ?_);rintro e w1 ⟨rfl,rfl⟩))
    | (go_at_call 85;((with_reducible refine HN.out.mono ?_);rintro e w2 ⟨rfl,rfl⟩)))
   go_ret
   exact ⟨by rw[HV.out];rfl,rfl⟩
theorem right_any (B:Nat→Prop)(m:Ms)(w:World)(h:MR w B m) :
 Calls Tryz.prog 52 #[msV m] w fun e w'=>e=.returned (.bool (vB m.o m.n))∧w.alloc (.cells (msC m) 24)=w':=by
 have h1:=h.alloc (.cells (msC m) 24)
 cases ho:mlB m.o with
 | false=>
  have HO:=ħ (rmembers_b B m.A m.c m.o _ h1.o h.ol false ho)
  have HV:Hid (vB m.o m.n=false):=by show _=_;simp[vB,ho]
  clear ho h h1
  go_enter Tryz.func52,Tryz.ntmps52
  go_wp2_with (go_at_call 84;((with_reducible refine HO.out.mono ?_);rintro e w1 ⟨rfl,rfl⟩))
  go_ret
  exact ⟨by rw[HV.out];rfl,rfl⟩
 | true=>
  have HO:=ħ (rmembers_b B m.A m.c m.o _ h1.o h.ol true ho)
  by_cases hn:m.n.length=0
  ·have HV:Hid (vB m.o m.n=true):=by show _=_;simp only[vB,ho];rw[decide_eq_true hn];rfl
   have hn':((m.n.length:Int) == 0)=true:=by rw[beq_iff_eq];omega
   have hn'':(m.n.length == 0)=true:=by simp[hn]
   have HNN:=ħ hn
   clear ho h h1 hn
   go_enter Tryz.func52,Tryz.ntmps52
   go_wp2_with (go_at_call 84;((with_reducible refine HO.out.mono ?_);rintro e w1 ⟨rfl,rfl⟩))
   go_ret
   exact ⟨by rw[HV.out];rfl,rfl⟩
  ·have hn':((m.n.length:Int) == 0)=false:=by rw[beq_eq_false_iff_ne];omega
   have hn'':(m.n.length == 0)=false:=by simp[hn]
   have HN:=ħ (rmembers_b B m.A' m.c' m.n _ h1.n h.nl _ rfl)
   have HV:Hid (vB m.o m.n=mlB m.n):=by show _=_;simp only[vB,ho];rw[decide_eq_false hn];rfl
   clear ho h h1 hn
   generalize mlB m.n=q at HN HV
   go_enter Tryz.func52,Tryz.ntmps52
   go_wp2_with (first
    | (go_at_call 84;((with_reducible refine HO.out.mono ?_);rintro e w1 ⟨rfl,rfl⟩))
    | (go_at_call 84;((with_reducible refine HN.out.mono ?_);rintro e w2 ⟨rfl,rfl⟩)))
   go_ret
   exact ⟨by rw[HV.out];rfl,rfl⟩
theorem valid_b (B:Nat→Prop)(m:Ms)(w:World)(h:MR w B m)(q:Bool)(hq:vB m.o m.n=q) :
 Calls Tryz.prog 54 #[msV m] w fun e w'=>e=.returned (.bool q)∧w.alloc (.cells (msC m) 24)=w':=hq ▸ valid_any B m w h
theorem right_b (B:Nat→Prop)(m:Ms)(w:World)(h:MR w B m)(q:Bool)(hq:vB m.o m.n=q) :
 Calls Tryz.prog 52 #[msV m] w fun e w'=>e=.returned (.bool q)∧w.alloc (.cells (msC m) 24)=w':=hq ▸ right_any B m w h
theorem reached_any (B B2:Nat→Prop)(m:Ms)(A2:Option Addr)(c2:Nat)(yes:List Int)(w:World)(h:MR w B m)(hy:RI w B2 A2 yes)(hl:yes.length≤1000) :
 Calls Tryz.prog 119 #[msV m,.slice A2 yes.length c2] w fun e w'=>e=.returned (.bool (reachB m.o m.n yes))∧Below w.heap.size w w':=by
 have h1:=h.alloc (.cells (msC m) 24)
 have h2:=h1.alloc (.cells (msC m) 24)
 have hy2:=(hy.alloc (.cells (msC m) 24)).alloc (.cells (msC m) 24)
 have hfin:Below w.heap.size w ((w.alloc (.cells (msC m) 24)).alloc (.cells (msC m) 24)):=((Below.refl _ _).alloc (Nat.le_refl _) _).alloc (by simp) _
 cases hv:vB m.o m.n with
 | false=>
  have HO:=ħ (valid_b B m _ h1 false hv)
  have HV:Hid (reachB m.o m.n yes=false):=by show _=_;simp[reachB,hv]
  clear hv h h1 h2 hy hy2
  go_enter Tryz.func119,Tryz.ntmps119
  go_wp2_with (go_at_call 54;((with_reducible refine HO.out.mono ?_);rintro e w1 ⟨rfl,rfl⟩))
  go_ret
  exact ⟨by rw[HV.out];rfl,hfin⟩
 | true=>
  have HO:=ħ (valid_b B m _ h1 true hv)
  cases hc:conQ m.o yes with
  | false=>
   have HC:=ħ (hc ▸ conq_any B B2 m.A A2 m.c c2 m.o yes _ h2.o hy2 h.ol hl)
   have HV:Hid (reachB m.o m.n yes=false):=by show _=_;simp[reachB,hc]
   clear hv h h1 h2 hy hy2 hc
   go_enter Tryz.func119,Tryz.ntmps119
   go_wp2_with (first
    | (go_at_call 54;((with_reducible refine HO.out.mono ?_);rintro e w1 ⟨rfl,rfl⟩))
    | (go_at_call 140;((with_reducible refine HC.out.mono ?_);rintro e w2 ⟨rfl,rfl⟩)))
   go_ret
   exact ⟨by rw[HV.out];rfl,hfin⟩
  | true=>
   have HC:=ħ (hc ▸ conq_any B B2 m.A A2 m.c c2 m.o yes _ h2.o hy2 h.ol hl)
   by_cases hn:m.n.length=0
   ·have HV:Hid (reachB m.o m.n yes=true):=by show _=_;simp only[reachB,hv,hc];rw[decide_eq_true hn];rfl
    have hn':((m.n.length:Int) == 0)=true:=by rw[beq_iff_eq];omega
    have hn'':(m.n.length == 0)=true:=by simp[hn]
    clear hv h h1 h2 hy hy2 hc hn
    go_enter Tryz.func119,Tryz.ntmps119
    go_wp2_with (first
     | (go_at_call 54;((with_reducible refine HO.out.mono ?_);rintro e w1 ⟨rfl,rfl⟩))
     | (go_at_call 140;((with_reducible refine HC.out.mono ?_);rintro e w2 ⟨rfl,rfl⟩)))
    go_ret
    exact ⟨by rw[HV.out];rfl,hfin⟩
   ·have hn':((m.n.length:Int) == 0)=false:=by rw[beq_eq_false_iff_ne];omega
    have hn'':(m.n.length == 0)=false:=by simp[hn]
    have HN:=ħ (conq_any B B2 m.A' A2 m.c' c2 m.n yes _ h2.n hy2 h.nl hl)
    have HV:Hid (reachB m.o m.n yes=conQ m.n yes):=by show _=_;simp only[reachB,hv,hc];rw[decide_eq_false hn];rfl
    clear hv h h1 h2 hy hy2 hc hn
    generalize conQ m.n yes=q at HN HV
    go_enter Tryz.func119,Tryz.ntmps119
    go_wp2_with (first
     | (go_at_call 54;((with_reducible refine HO.out.mono ?_);rintro e w1 ⟨rfl,rfl⟩))
     | (go_at_call 140;((with_reducible refine HC.out.mono ?_);rintro e w2 ⟨rfl,rfl⟩))
     | (go_at_call 140;((with_reducible refine HN.out.mono ?_);rintro e w3 ⟨rfl,rfl⟩)))
    go_ret
    exact ⟨by rw[HV.out];rfl,hfin⟩
end Go.Proofs.YtdfobfjpkjddpaaGreat
namespace Go.Raft
open Go.Quo Go.Wire
section
variable {c0:Mb} {G G':Gh} {s s':Nd} {ms:List Msg} {i:Int}
theorem pres_end (L:List Ent)(e:Ent):pres L L.length [e]=0:=by
 unfold pres
 rw[if_neg (by simp)]
theorem add_eq (s:Nd)(kind:Int)(body:List Int):s.add kind body = { s with log:=s.log ++ [⟨s.term,kind,body⟩],recs:=s.recs ++ recsOf (s.log.length+1) [⟨s.term,kind,body⟩] }:=by
 unfold Nd.add Nd.write
 rw[pres_end,if_neg (by simp)]
 simp
theorem NxR.snoc {e:Ent}{r:List (Int × List Int)}(h:NxR s):NxR { s with log:=s.log ++ [e],recs:=r }:=by
 intro k hk
 obtain ⟨⟨a,b⟩,c⟩:=h k hk
 exact ⟨⟨a,by show gd s.nx k≤((s.log ++ [e]).length:Int)+1;rw[List.length_append,List.length_singleton];omega⟩,c⟩
theorem add_ok (h:Good c0 G s)(hr:s.role=3){kind:Int}{body:List Int}(hc:∀ c,cfE ⟨s.term,kind,body⟩=some c→stepC s.mb c∧(posC s.log:Int)≤s.commit):Nx c0 G s.id (s.add kind body) []:=by
 have hcc:∀ c,cfE ⟨s.term,kind,body⟩=some c→stepC (conf cfE c0 (view s).L) c∧∀ k,isC cfE (view s).L k→k<(view s).c:=by
  intro c hcf
  obtain ⟨a,b⟩:=hc c hcf
  refine ⟨by rw[←h.c];exact a,fun k hk=>?_⟩
  have:=posC_at _ k hk
  show k<s.commit.toNat
  have e:(view s).L=s.log:=rfl
  rw[e] at this
  omega
 obtain ⟨g1,g2,g3,g4⟩:=NInv.grow h.g h.n hr (e:=⟨s.term,kind,body⟩) rfl hcc (view (s.add kind body)) (by rw[add_eq];rfl) (by rw[add_eq];rfl) (by rw[add_eq];exact hr) (by rw[add_eq];rfl) (by rw[add_eq];rfl) (by rw[add_eq];rfl) (by rw[add_eq];rfl)
 refine Nx.mk' h g1 g2 g3 g4 ?_ (by rw[add_eq]) (by rw[add_eq]) (fun m hm=>by simp at hm)
 rw[add_eq]
 exact ⟨h.w.id,h.w.com,h.w.vs,h.w.mt,h.w.nx,fun _=>(h.w.ran hr).snoc,h.w.term⟩
theorem comm_ok (h:Good c0 G s)(hr:s.role=3):Nx c0 G s.id s.comm []:=by
 unfold Nd.comm
 split
 ·rename_i hc
  obtain ⟨h1,h2⟩:=hc
  have hcom:=h.w.com
  have hpos:0<s.cand:=by omega
  obtain ⟨n,hn⟩:∃ n:Nat,s.cand=n:=⟨s.cand.toNat,by omega⟩
  have hn0:0<n:=by omega
  rw[hn,termAt_nat,if_neg (by omega)] at h2
  obtain ⟨e,he,het⟩:=Option.map_eq_some_iff.1 h2
  have hq:rch (conf cfE c0 (view s).L) (fun u=>decide (s.cand≤s.num u) && decide (0≤u)):=by
   rw[←h.c]
   exact com_rch (o:=s.mb.o) (n:=s.mb.n) hpos (Int.le_refl _)
  obtain ⟨n5a,n5b,n5c⟩:=h.n.n5 hr
  have hL:=h.n.n6 n5a
  obtain ⟨g1,g2,g3,g4⟩:=NInv.commit h.g h.n hr hn0 he het hq (by
   intro u hu
   simp only[Bool.and_eq_true,decide_eq_true_eq] at hu
   obtain ⟨hu1,hu2⟩:=hu
   unfold Nd.num at hu1
   by_cases hui:u=s.id
   ·rw[if_pos hui] at hu1
    have:=hL.2
    subst hui
    have e2:(view s).L.length=s.log.length:=rfl
    omega
   ·rw[if_neg hui] at hu1
    have:=n5c u
    have e2:(view s).mt u=(gd s.mt u.toNat).toNat:=by show (if 0≤u then (gd s.mt u.toNat).toNat else 0)=_;rw[if_pos hu2]
    omega)
  refine Nx.mk' h g1 ?_ g3 g4 ⟨h.w.id,by show 0≤s.cand;omega,h.w.vs,h.w.mt,h.w.nx,h.w.ran,h.w.term⟩ rfl rfl (fun m hm=>by simp at hm)
  have:view { s with commit:=s.cand } = { view s with c:=n }:=by unfold view;rw[hn];rfl
  rw[this];exact g2
 ·exact Nx.still h h.n h.w rfl rfl (fun m hm=>by simp at hm)
theorem comm_same (s:Nd):s.comm.log=s.log∧s.comm.role=s.role∧s.comm.c0=s.c0∧s.comm.term=s.term∧s.comm.id=s.id∧s.comm.nx=s.nx∧s.comm.mt=s.mt∧s.comm.mb=s.mb∧s.commit≤s.comm.commit:=by
 unfold Nd.comm
 split
 ·rename_i hc;exact ⟨rfl,rfl,rfl,rfl,rfl,rfl,rfl,rfl,by show s.commit≤s.cand;omega⟩
 ·exact ⟨rfl,rfl,rfl,rfl,rfl,rfl,rfl,rfl,Int.le_refl _⟩
theorem cfE_encM {t:Int}{o n:List Int}(hv:vB o n=true){c:Mb}(h:cfE ⟨t,3,encM o n⟩=some c):c=⟨o,n⟩:=by
 unfold cfE at h
 rw[dec_enc hv] at h
 split at h
 ·injection h with h;exact h.symm
 ·cases h
theorem adv_ok (h:Good c0 G s)(hr:s.role=3)(hv:vB s.mb.o s.mb.n=true):Nx c0 G s.id s.adv []:=by
 obtain ⟨k1,k2,k3,k4,k5,k6,k7,k8,k9⟩:=comm_same s
 unfold Nd.adv
 split
 ·exact comm_ok h hr
 ·rename_i hp
  split
  ·rename_i hn
   refine (comm_ok h hr).go (fun G1 g1 _=>?_)
   rw[←k5]
   refine add_ok g1 (by rw[k2];exact hr) (fun c hc=>?_)
   have hvn:vB s.mb.n []=true:=by
    obtain ⟨a,b⟩:=v_parts hv
    unfold vB
    rcases b with b | b
    ·exact absurd (List.eq_nil_of_length_eq_zero b) hn
    ·rw[b];rfl
   have:=cfE_encM hvn hc
   subst this
   exact ⟨.inr ⟨by rw[k8];exact hn,by rw[k8],rfl⟩,by rw[k1];omega⟩
  ·split
   ·exact comm_ok h hr
   ·refine (comm_ok h hr).go (fun G1 g1 _=>?_)
    rw[←k5]
    refine Nx.still g1 (NInv.quiet g1.n _ rfl rfl rfl rfl (.inl rfl) (fun hh=>absurd (show (0:Int)≤-1 from hh) (by decide))) ?_ rfl rfl (fun m hm=>by simp at hm)
    exact ⟨g1.w.id,g1.w.com,g1.w.vs,g1.w.mt,g1.w.nx,fun hh=>absurd (show (1:Int)=3 from hh) (by decide),g1.w.term⟩
theorem adv_same (s:Nd):s.adv.term=s.term∧s.adv.id=s.id∧s.adv.nx=s.nx∧s.adv.mt=s.mt∧s.log.length≤s.adv.log.length∧s.adv.c0=s.c0∧s.commit≤s.adv.commit:=by
 obtain ⟨k1,k2,k3,k4,k5,k6,k7,k8,k9⟩:=comm_same s
 unfold Nd.adv
 split
 ·exact ⟨k4,k5,k6,k7,by rw[k1];exact Nat.le_refl _,k3,k9⟩
 ·split
  ·rw[add_eq]
   exact ⟨k4,k5,k6,k7,by show _≤(s.comm.log ++ _).length;rw[k1];simp,k3,k9⟩
  ·split
   ·exact ⟨k4,k5,k6,k7,by rw[k1];exact Nat.le_refl _,k3,k9⟩
   ·exact ⟨k4,k5,k6,k7,by show _≤s.comm.log.length;rw[k1];exact Nat.le_refl _,k3,k9⟩
theorem NxR.adv (h:NxR s):NxR s.adv:=by
 obtain ⟨a,b,c,d,e,_,_⟩:=adv_same s
 intro k hk
 obtain ⟨⟨x,y⟩,z⟩:=h k hk
 rw[c,d]
 exact ⟨⟨x,by omega⟩,z⟩
theorem NxR.add (h:NxR s)(kind:Int)(body:List Int):NxR (s.add kind body):=by rw[add_eq];exact h.snoc
theorem cfE_perm {e:Ent}{c:Mb}(h:cfE e=some c):permB c.o c.n=true:=by
 unfold cfE at h
 split at h
 ·rename_i hh;injection h with h;rw[←h];exact hh.2.2
 ·cases h
theorem mb_perm (h:Good c0 G s):permB s.mb.o s.mb.n=true:=by
 unfold Nd.mb
 rw[h.c]
 rcases conf_last (cf:=cfE) (c0:=c0) s.log with ⟨_,e⟩ | ⟨p,e,c,_,h2,h3,_⟩
 ·rw[e];exact h.p
 ·rw[h3];exact cfE_perm h2
theorem perm_parts {o n:List Int}(h:permB o n=true):vB o n=true∧∀ x∈memF o n,x<9:=by
 unfold permB at h
 rw[Bool.and_eq_true,List.all_eq_true] at h
 exact ⟨h.1,fun x hx=>by simpa using h.2 x hx⟩
theorem others9 (h:Good c0 G s):∀ x∈s.others,0≤x∧x<9∧x≠s.id:=by
 intro x hx
 obtain ⟨a,b⟩:=mem_range s x hx
 exact ⟨a.1,(perm_parts (mb_perm h)).2 x (List.mem_filter.1 hx).1,b⟩
theorem apps_ok (h:Good c0 G s)(he:G.el s.term=some s.id)(hx:NxR s):∀ m∈s.apps,MInv G m:=by
 intro m hm
 unfold Nd.apps at hm
 obtain ⟨x,hx1,rfl⟩:=List.mem_map.1 hm
 have:=others9 h x hx1
 exact app_ok h he hx this.1 this.2.1
end
section
variable {c0:Mb} {G G':Gh} {s s':Nd} {ms:List Msg} {i:Int}
theorem gd_rep {n k:Nat}{v:Int}(h:k<n):gd (List.replicate n v) k=v:=by
 rw[gd_get (by simpa using h)];simp
theorem lead0_ran (s:Nd):NxR s.lead0:=by
 intro k hk
 have e1:gd s.lead0.nx k=s.log.length+1:=gd_rep hk
 have e2:gd s.lead0.mt k=0:=gd_rep hk
 rw[e1,e2]
 have e3:s.lead0.log=s.log:=rfl
 rw[e3]
 omega
theorem lead0_ok (h:Good c0 G s)(hr:s.role=2)(hT:0<s.term)(hq:s.elected=true):Nx c0 G s.id s.lead0 []:=by
 have hq':rch (conf cfE c0 (view s).L) (view s).vs:=by
  rw[←h.c]
  exact reach_rch hq
 obtain ⟨g1,g2,g3,g4⟩:=NInv.lead h.g h.n hr hT hq' (fun u x hx=>h.a u s.term x hx) (view s.lead0) rfl rfl rfl rfl rfl rfl (fun u=>by
  show (if 0≤u then (gd (List.replicate 9 0) u.toNat).toNat else 0)=0
  split
  ·rcases Nat.lt_or_ge u.toNat 9 with hu | hu
   ·rw[gd_rep hu];rfl
   ·unfold gd;rw[List.getD_eq_getElem?_getD,List.getElem?_eq_none (by simpa using hu)];rfl
  ·rfl)
 exact Nx.mk' h g1 g2 g3 g4 ⟨h.w.id,h.w.com,h.w.vs,by simp[Nd.lead0],by simp[Nd.lead0],fun _=>lead0_ran s,h.w.term⟩ rfl rfl (fun m hm=>by simp at hm)
theorem noop_cf (t:Int)(b:List Int)(c:Mb)(h:cfE ⟨t,1,b⟩=some c):False:=by
 unfold cfE at h
 rw[if_neg (fun hh=>absurd (show (1:Int)=3 from hh.1) (by decide))] at h
 cases h
theorem cmd_cf (t:Int)(b:List Int)(c:Mb)(h:cfE ⟨t,2,b⟩=some c):False:=by
 unfold cfE at h
 rw[if_neg (fun hh=>absurd (show (2:Int)=3 from hh.1) (by decide))] at h
 cases h
theorem sent_ok (h:Good c0 G s)(k:Nx c0 G i s' [])(he:∀ G1,Fm i G G1→G1.el s'.term=some i)(hx:NxR s')(hs:∀ x,x∈ms↔x∈s'.apps):Nx c0 G i s' ms:=by
 obtain ⟨G1,g1,f,hv,hi,_⟩:=k.ex
 refine ⟨G1,g1,f,hv,hi,fun m hm=>?_⟩
 exact apps_ok g1 (by rw[hi];exact he G1 f) hx m ((hs m).1 hm)
theorem Nx.same {s2:Nd}(k:Nx c0 G i s' ms)(hv:view s2=view s')(hi:s2.id=s'.id)(hc:s2.c0=s'.c0)(hw:SW s'→SW s2):Nx c0 G i s2 ms:=by
 obtain ⟨G1,g1,f,hvl,hid,hm⟩:=k.ex
 exact ⟨G1,g1.same hv hi hc (hw g1.w),f,hvl,by rw[hi,hid],hm⟩
theorem add_same (s:Nd)(k:Int)(b:List Int):(s.add k b).term=s.term∧(s.add k b).id=s.id∧(s.add k b).role=s.role∧(s.add k b).nx=s.nx∧(s.add k b).commit=s.commit∧(s.add k b).mt=s.mt:=by rw[add_eq];exact ⟨rfl,rfl,rfl,rfl,rfl,rfl⟩
theorem prop_ok (h:Good c0 G s)(hr:s.role=3){kind:Int}{body:List Int}(hc:∀ c,cfE ⟨s.term,kind,body⟩=some c→stepC s.mb c∧(posC s.log:Int)≤s.commit):Nx c0 G s.id (s.prop kind body).1 (s.prop kind body).2:=by
 obtain ⟨a1,a2,a3,a4,a5,a6⟩:=add_same s kind body
 have hx:NxR (s.add kind body).adv:=((h.w.ran hr).add kind body).adv
 have he:=h.el hr
 refine sent_ok h ?_ (fun G1 f=>by show G1.el (s.add kind body).adv.term=_;rw[(adv_same _).1,a1];exact f.f1 _ _ he) hx (fun x=>Iff.rfl)
 refine (add_ok h hr hc).go (fun G1 g1 _=>?_)
 have:=adv_ok g1 (by rw[a3];exact hr) (perm_parts (mb_perm g1)).1
 rw[a2] at this
 exact this
theorem lead_ok (h:Good c0 G s)(hr:s.role=2)(hT:0<s.term)(hq:s.elected=true)(now:Int):Nx c0 G s.id (s.lead now).1 (s.lead now).2:=by
 have key:Nx c0 G s.id ((s.lead0).add 1 []).adv ((s.lead0).add 1 []).adv.apps:=by
  refine (lead0_ok h hr hT hq).go (fun G1 g1 f=>?_)
  exact prop_ok g1 rfl (fun c hc=>(noop_cf _ _ c hc).elim)
 exact key.same rfl rfl rfl (fun hw=>⟨hw.id,hw.com,hw.vs,hw.mt,hw.nx,hw.ran,hw.term⟩)
theorem start0_ok (h:Good c0 G s)(now:Int):Nx c0 G s.id (s.start0 now) []:=by
 obtain ⟨g1,g2,g3,g4⟩:=NInv.start h.g h.n h.w.id.1 (T':=s.term+1) (by show s.term<_;omega) (view (s.start0 now)) rfl rfl rfl rfl rfl rfl (voters_one h.w.id.1 h.w.id.2)
 exact Nx.mk' h g1 g2 g3 g4 ⟨h.w.id,h.w.com,by simp[Nd.start0],h.w.mt,h.w.nx,fun hh=>absurd (show (2:Int)=3 from hh) (by decide),by have:=h.w.term;show 0≤s.term+1;omega⟩ rfl rfl (fun m hm=>by simp at hm)
theorem start_ok (h:Good c0 G s)(now:Int):Nx c0 G s.id (s.start now).1 (s.start now).2:=by
 unfold Nd.start
 split
 ·exact Nx.still h h.n h.w rfl rfl (fun m hm=>by simp at hm)
 ·split
  ·rename_i hq
   refine (start0_ok h now).go (fun G1 g1 _=>?_)
   exact lead_ok g1 rfl (by have:=h.w.term;show 0<s.term+1;omega) hq now
  ·obtain ⟨G1,g1,f,hv,hi,_⟩:=(start0_ok h now).ex
   refine ⟨G1,g1,f,hv,hi,fun m hm=>?_⟩
   obtain ⟨x,hx,rfl⟩:=List.mem_map.1 hm
   have n4:=g1.n.n4 rfl
   exact ⟨fun _=>⟨s.log,n4.2.1,rfl,rfl⟩,fun hk=>absurd (show (1:Int)=2 from hk) (by decide),fun hk=>absurd (show (1:Int)=3 from hk) (by decide),fun hk=>absurd (show (1:Int)=4 from hk) (by decide)⟩
theorem clock_ok (h:Good c0 G s)(now:Int):Good c0 G (s.clock now):=h.same rfl rfl rfl ⟨h.w.id,h.w.com,h.w.vs,h.w.mt,h.w.nx,h.w.ran,h.w.term⟩
theorem tick1_ok (h:Good c0 G s)(t:Int):Nx c0 G s.id (s.tick1 t).1 (s.tick1 t).2:=by
 unfold Nd.tick1
 split
 ·rename_i hr
  split
  ·exact Nx.still h h.n ⟨h.w.id,h.w.com,h.w.vs,h.w.mt,h.w.nx,h.w.ran,h.w.term⟩ rfl rfl (apps_ok h (h.el hr) (h.w.ran hr))
  ·exact Nx.still h h.n h.w rfl rfl (fun m hm=>by simp at hm)
 ·split
  ·exact start_ok h _
  ·exact Nx.still h h.n h.w rfl rfl (fun m hm=>by simp at hm)
theorem tick_ok (h:Good c0 G s)(now:Int):Nx c0 G s.id (s.tick now).1 (s.tick now).2:=tick1_ok (clock_ok h now) (s.tickT now)
theorem propose_ok (h:Good c0 G s)(body:List Int):Nx c0 G s.id (s.propose body).1 (s.propose body).2:=by
 unfold Nd.propose
 split
 ·exact Nx.still h h.n h.w rfl rfl (fun m hm=>by simp at hm)
 ·rename_i hr
  exact prop_ok h (by simpa using hr) (fun c hc=>(cmd_cf _ _ c hc).elim)
theorem change_ok (h:Good c0 G s)(next:List Int):Nx c0 G s.id (s.change next).1 (s.change next).2:=by
 unfold Nd.change
 split
 ·exact Nx.still h h.n h.w rfl rfl (fun m hm=>by simp at hm)
 ·rename_i hr
  split
  ·exact Nx.still h h.n h.w rfl rfl (fun m hm=>by simp at hm)
  ·rename_i hb
   split
   ·rename_i hn
    refine prop_ok h (by simpa using hr) (fun c hc=>?_)
    have hvn:=(perm_parts hn.2).1
    have:=cfE_encM hvn hc
    subst this
    have hb1:s.mb.n=[]:=by
     by_cases hx:s.mb.n=[]
     ·exact hx
     ·exact absurd (.inl hx) hb
    have hb2:¬ s.commit<posC s.log:=fun hx=>hb (.inr hx)
    exact ⟨.inl ⟨hb1,rfl⟩,by omega⟩
   ·exact Nx.still h h.n h.w rfl rfl (fun m hm=>by simp at hm)
theorem again_ok (h:Good c0 G s)(now:Int):Nx c0 G s.id (s.again now) []:=by
 refine Nx.still h (NInv.quiet h.n _ rfl rfl rfl rfl (.inr rfl) (fun hh=>absurd (show (0:Int)≤-1 from hh) (by decide))) ?_ rfl rfl (fun m hm=>by simp at hm)
 exact ⟨h.w.id,Int.le_refl 0,by simp[Nd.again],by simp[Nd.again],by simp[Nd.again],fun hh=>absurd (show (1:Int)=3 from hh) (by decide),h.w.term⟩
end
end Go.Raft
