import Derived.Test.YtdfobfjpkjddpaaGreatUG10
set_option linter.unusedVariables false
set_option linter.unusedSimpArgs false
set_option maxRecDepth 10000
set_option maxHeartbeats 8000000
namespace Go.Proofs.YtdfobfjpkjddpaaGreat
open Go.RowKit Go.Own Go.Quo Go.Wire
def rStep (x:Int × List Int)(s:Int × Int):Option (Int × Int):=if x.1=84 then rTerm x.2 s.1 else if x.1=86 then rVote x.2 s.1 s.2 else some s
def rAll:List (Int × List Int)→Int × Int→Option (Int × Int)
 | [],s=>some s
 | x :: r,s=>(rStep x s).bind (rAll r)
theorem rAll_cons {l:List (Int × List Int)}{k:Nat}{x:Int × List Int}(hx:l[k]?=some x)(s:Int × Int):rAll (l.drop k) s=(rStep x s).bind (rAll (l.drop (k+1))):=by
 have hk:=(List.getElem?_eq_some_iff.1 hx).1
 have:l.drop k=x :: l.drop (k+1):=by
  rw[List.drop_eq_getElem_cons hk]
  rw[List.getElem?_eq_getElem hk] at hx
  injection hx with hx
  rw[hx]
 rw[this];rfl
def VOR (j:Nat)(res:Option (Int × Int))(w:World)(e:Ending)(w':World):Prop:=
 (∀ t n,res=some (t,n)→e=.returned (.tuple #[.pointer (some ⟨w.heap.size,0,none⟩),.int .i64 0])∧Blk w' w.heap.size 122 #[.pointer (some ⟨j,0,none⟩),.int .i64 t,.int .i64 n])∧(res=none→e=.returned (.tuple #[.pointer none,.int .i64 2]))∧Below w.heap.size w w'
theorem fr_below_new {w w1 w2:World}(h1:Below w.heap.size w w1)(h2:Fr (fun k=>k=w.heap.size) w1 w2):Below w.heap.size w w2:=h1.trans (h2.below h1.size (fun k hk e=>by omega))
theorem vopen_any (w:World)(Z:Nat→Prop)(p j:Nat)(recs:List (Int × List Int))(dur:Int)(h:JS w Z p j recs dur false)(hl:recs.length≤1000000)(hb:∀ x∈recs,Bytes x.2∧x.2.length≤1000000) :
 Calls Tryz.prog 32 #[.pointer (some ⟨j,0,none⟩)] w (VOR j (rAll recs (0,-1)) w):=by
 have hnil:∀ (a:Addr) (W:World),(binOp .eql 77 (.pointer (some a)) (.pointer none)).run Tryz.prog W=.ok (.bool false) W:=fun _ _=>by rfl
 have f1:Fr (fun _=>False) w (w.alloc (.cells #[.pointer (some ⟨j,0,none⟩),.int .i64 0,.int .i64 (-1)] 122)):=(Fr.refl _ _).alloc _
 have g1:Blk (w.alloc (.cells #[.pointer (some ⟨j,0,none⟩),.int .i64 0,.int .i64 (-1)] 122)) w.heap.size 122 #[.pointer (some ⟨j,0,none⟩),.int .i64 0,.int .i64 (-1)]:=Blk.new w 122 _
 have b1:Below w.heap.size w (w.alloc (.cells #[.pointer (some ⟨j,0,none⟩),.int .i64 0,.int .i64 (-1)] 122)):=(Below.refl _ _).alloc (Nat.le_refl _) _
 have s1:(w.alloc (.cells #[.pointer (some ⟨j,0,none⟩),.int .i64 0,.int .i64 (-1)] 122)).heap.size=w.heap.size+1:=by simp
 have h1:=h.fr f1 (fun _ _=>id)
 have HR:=ħ (records_any _ Z p j recs dur false h1 hl (fun x hx=>(hb x hx).2))
 have HBy:=ħ hb
 clear h hb
 have HRes:=ħ (show rAll (recs.drop 0) (0,-1)=rAll recs (0,-1) by simp)
 generalize rAll recs (0,-1)=res at *
 obtain ⟨i,hi,hz,hsz,hby⟩:=info_parts info35
 go_enter Tryz.func32,Tryz.ntmps32
 go_wp2_with fail
 generalize w.alloc (.cells #[.pointer (some ⟨j,0,none⟩),.int .i64 0,.int .i64 (-1)] 122)=W1 at *
 refine HR.out.mono ?_
 rintro e w2 ⟨ds,rfl,r2,hm2,hd2,hB2⟩
 have b2:=b1.trans (hB2.mono b1.size)
 have g2:=g1.below hB2 g1.lt
 have hdl:ds.length=recs.length:=by rw[←hm2];simp
 have HM:=ħ hm2
 have HD:=ħ hd2
 have HDl:=ħ hdl
 have hdn:ds.length≤1000000:=by omega
 have s2:=hB2.size
 rw[s1] at *
 clear hm2 hd2 hdl
 go_wp2_with fail
 go_loopw [16] (fun vi wr=>∃ (k:Nat) (t n:Int),k≤ds.length∧vi=.int .i64 k∧Blk wr w.heap.size 122 #[.pointer (some ⟨j,0,none⟩),.int .i64 t,.int .i64 n]∧rAll (recs.drop k) (t,n)=res∧Fr (fun k=>k=w.heap.size) w2 wr) (fun vi _=>ds.length - (intOf vi).toNat)
 case atStart=>exact ⟨0,0,-1,Nat.zero_le _,rfl,g2,HRes.out,Fr.refl _ _⟩
 case round=>
  obtain ⟨k,t,n,hk,rfl,hblk,hres,hfr⟩:=hrel
  have HE:=ħ hres
  clear hres
  have hsz':=hfr.size
  by_cases hlt:k<ds.length
  ·have hlt':(k:Int)<ds.length:=by omega
   obtain ⟨x,hgx⟩:∃ x,ds[k]?=some x:=⟨_,List.getElem?_eq_getElem hlt⟩
   have hxm:=List.mem_of_getElem? hgx
   have hgr:recs[k]?=some (recOf x):=by rw[←HM.out,List.getElem?_map,hgx];rfl
   have hRr:=r2.fr hfr (fun k hk e=>by omega)
   have hix:∀ W:World,(Instr.indexAt 91 (.slice (some ⟨w.heap.size+1,0,none⟩) ds.length ds.length) (.int .i64 (k:Int))).run Tryz.prog W=.ok (.pointer (some ⟨w.heap.size+1,k * 2,none⟩)) W:=fun W=>by simpa [bk,ofs,adr] using run_indexAt2 (P:=Tryz.prog) Tryz.underlying91 hi hsz (A:=some ⟨w.heap.size+1,0,none⟩) (n:=ds.length) (fun _=>⟨_,_,rfl⟩) ds.length k hlt W
   obtain ⟨c0,c1⟩:=rc_cells hRr hgx
   simp only[bk,ofs,adr,Option.getD_some,Nat.zero_add] at c0 c1
   have hxr:=(HD.out x hxm).fr hfr (fun k hk e=>by omega)
   obtain ⟨hxb,hxl⟩:=HBy.out (recOf x) (List.mem_of_getElem? hgr)
   have HE2:=ħ (rAll_cons hgr (t,n) ▸ HE.out)
   clear hgr hxm hgx hRr HE
   obtain ⟨kd,xA,xc,body⟩:=x
   simp only[recOf] at *
   have hx2:=hxr.alloc (.cells #[.int .u8 kd,.slice xA body.length xc] 115)
   have k2:=hblk.alloc (.cells #[.int .u8 kd,.slice xA body.length xc] 115)
   have f2:=hfr.alloc (.cells #[.int .u8 kd,.slice xA body.length xc] 115)
   by_cases h84:kd=84
   ·subst h84
    have HT:=ħ (restoreTerm_any _ xA xc body _ w.heap.size j t n k2 hx2 hxb (by omega))
    have HS:=ħ (show (rTerm body t).bind (rAll (recs.drop (k+1)))=res from HE2.out)
    clear hxr hx2 hxb
    generalize rTerm body t=rr at *
    go_wp2_with fail
    refine HT.out.mono ?_
    rintro e w3 ⟨hy,hn,hf3⟩
    have f3:=f2.trans hf3
    cases rr with
    | none=>
     obtain rfl:=hn rfl
     go_wp2
     exact bodyPost_ret (v:=.tuple #[.pointer none,.int .i64 2]) (by simp[results,Tryz.results32,go_sem]) rfl ⟨fun _ _ e=>(by rw[←HS.out] at e;cases e),fun _=>rfl,fr_below_new b2 f3⟩
    | some q=>
     obtain ⟨t',n'⟩:=q
     obtain ⟨rfl,hb3⟩:=hy _ _ rfl
     go_wp2
     exact ⟨⟨k+1,t',n',by omega,by go_num,hb3,HS.out,f3⟩,by simp[intOf];omega⟩
   ·by_cases h86:kd=86
    ·subst h86
     have HT:=ħ (restoreVote_any _ xA xc body _ w.heap.size j t n k2 hx2 hxb (by omega))
     have HS:=ħ (show (rVote body t n).bind (rAll (recs.drop (k+1)))=res from HE2.out)
     clear hxr hx2 hxb
     generalize rVote body t n=rr at *
     go_wp2_with fail
     refine HT.out.mono ?_
     rintro e w3 ⟨hy,hn,hf3⟩
     have f3:=f2.trans hf3
     cases rr with
     | none=>
      obtain rfl:=hn rfl
      go_wp2
      exact bodyPost_ret (v:=.tuple #[.pointer none,.int .i64 2]) (by simp[results,Tryz.results32,go_sem]) rfl ⟨fun _ _ e=>(by rw[←HS.out] at e;cases e),fun _=>rfl,fr_below_new b2 f3⟩
     | some q=>
      obtain ⟨t',n'⟩:=q
      obtain ⟨rfl,hb3⟩:=hy _ _ rfl
      go_wp2
      exact ⟨⟨k+1,t',n',by omega,by go_num,hb3,HS.out,f3⟩,by simp[intOf];omega⟩
    ·have hq1:(kd == 84)=false:=by simpa using h84
     have hq2:(kd == 86)=false:=by simpa using h86
     have HS:=ħ (show rAll (recs.drop (k+1)) (t,n)=res by
      have:=HE2.out
      simp only[rStep,h84,h86,if_false] at this
      exact this)
     go_wp2
     exact ⟨⟨k+1,t,n,by omega,by go_num,k2,HS.out,f2⟩,by simp[intOf];omega⟩
  ·have hk':¬ (k:Int)<ds.length:=by omega
   have he:k=ds.length:=by omega
   have HS:=ħ (show some (t,n)=res by
    rw[←HE.out,he,HDl.out,List.drop_length];rfl)
   go_wp2
   refine bodyPost_ret (v:=.tuple #[.pointer (some ⟨w.heap.size,0,none⟩),.int .i64 0]) (by simp[results,Tryz.results32,go_sem]) rfl ⟨fun t' n' e=>?_,fun e=>?_,fr_below_new b2 hfr⟩
   ·rw[←HS.out] at e
    cases e
    exact ⟨rfl,hblk⟩
   ·rw[←HS.out] at e;cases e
end Go.Proofs.YtdfobfjpkjddpaaGreat
namespace Go.Wire
theorem encJ_app:∀ (a b:List (Int × List Int)) (prev:Int),encJ prev (a ++ b)=encJ prev a ++ encJ (lastS prev a) b
 | [],b,prev=>by simp[encJ,lastS]
 | (k,x) :: r,b,prev=>by rw[List.cons_append,encJ,encJ_app r,encJ,lastS,List.append_assoc]
theorem lastS_snoc:∀ (l:List (Int × List Int)) (prev k:Int) (b:List Int),lastS prev (l ++ [(k,b)])=chF (lastS prev l) k b
 | [],prev,k,b=>by simp[lastS]
 | (k',b') :: r,prev,k,b=>by rw[List.cons_append,lastS,lastS_snoc r,lastS]
end Go.Wire
namespace Go.Proofs.YtdfobfjpkjddpaaGreat
open Go.RowKit Go.Own Go.Quo Go.Wire
structure JK (w:World) (m p j:Nat) (Ar:Option Addr) (cr:Nat) (As:Option Addr) (cs:Nat) (rs:List Rc) (sums:List Int):Prop where
 jb:Blk w j 111 #[.pointer (some ⟨p,0,none⟩),.slice Ar rs.length cr,.slice As sums.length cs]
 ro:w.ownsRow 0 115 2 (.slice Ar rs.length cr) rs.length (rs.flatMap rcL)
 so:w.ownsRow 0 112 1 (.slice As sums.length cs) sums.length (u64s sums)
 zj:m≤j
 zr:∀ g,(Value.slice Ar rs.length cr).ownBlock=some g→m≤g
 zs:∀ g,(Value.slice As sums.length cs).ownBlock=some g→m≤g
 bd:∀ r∈rs,Reads w (fun k=>m≤k∧k≠j∧(Value.slice Ar rs.length cr).ownBlock≠some k∧(Value.slice As sums.length cs).ownBlock≠some k) 1 r.A r.body.length (bys r.body)
theorem JK.fr {w w':World}{S:Nat→Prop}{m p j:Nat}{Ar:Option Addr}{cr:Nat}{As:Option Addr}{cs:Nat}{rs:List Rc}{sums:List Int}(h:JK w m p j Ar cr As cs rs sums)(hf:Fr S w w')(hS:∀ g,m≤g→¬ S g):JK w' m p j Ar cr As cs rs sums:=
 ⟨h.jb.fr hf (hS _ h.zj),own_fr h.ro hf (fun g hg=>hS g (h.zr g hg)),own_fr h.so hf (fun g hg=>hS g (h.zs g hg)),h.zj,h.zr,h.zs,fun r hr=>(h.bd r hr).fr hf (fun k hk=>hS k hk.1)⟩
def JRd (w2:World)(m p:Nat)(recs:List (Int × List Int))(j:Nat)(vs vl:Value)(wr:World):Prop:=
 ∃ (k:Nat) (Ar:Option Addr) (cr:Nat) (As:Option Addr) (cs:Nat) (rs:List Rc),k≤recs.length∧vs=.int .u64 (lastS initS (recs.take k))∧vl=.int .i64 (encJ initS (recs.take k)).length∧JK wr m p j Ar cr As cs rs (sumsF initS (recs.take k))∧rs.map recOf=recs.take k∧Below m w2 wr
theorem jopen_cut (w:World)(p:Nat)(X:Nat→Prop)(recs:List (Int × List Int))(hX:∀ k,X k→k<w.heap.size)(h:FileP w p X (encJ initS recs) (encJ initS recs).length false)(hl:(encJ initS recs).length≤16777216)(hrl:recs.length≤1000000)(hb:∀ x∈recs,Bytes x.2∧x.2.length≤8192∧0≤x.1∧x.1<256) :
 Calls Tryz.prog 31 #[.pointer (some ⟨p,0,none⟩)] w (JOPost p recs X w):=by
 have HBy:=ħ (bytes_any w p X _ _ h hl)
 have hnil:∀ (a:Addr) (W:World),(binOp .eql 36 (.pointer (some a)) (.pointer none)).run Tryz.prog W=.ok (.bool false) W:=fun _ _=>by rfl
 have HSum:=ħ fun W=>sum_nil W
 have HRN:=ħ fun A c prev W=>readRecord_nil A c prev W
 have hpl:=h.lt
 have HH:=ħ h
 have HX:=ħ hX
 clear hX
 have HB:=ħ hb
 obtain ⟨data,hdata⟩:∃ data,encJ initS recs=data:=⟨_,rfl⟩
 have HDa:=ħ hdata
 rw[hdata] at HBy HH hl
 clear h hb hdata
 go_enter Tryz.func31,Tryz.ntmps31
 go_wp2_with fail
 refine HBy.out.mono ?_
 rintro e w2 ⟨A2,c2,rfl,r2,hc2,hB2⟩
 have h2:=ħ (HH.out.fr (Fr.of_below (S:=fun _=>False) hB2) id (fun _ _=>id))
 have hs2:=hB2.size
 have R2:=ħ (((r2.old (by omega))).more (B':=fun k=>k<w2.heap.size) (fun k hk=>hk.2))
 clear r2
 have j2:Blk (w2.alloc (.cells #[.pointer (some ⟨p,0,none⟩),.slice none 0 0,.slice none 0 0] 111)) w2.heap.size 111 #[.pointer (some ⟨p,0,none⟩),.slice none 0 0,.slice none 0 0]:=Blk.new w2 111 _
 go_wp2_with (first
  | (go_at_call 57;((with_reducible refine (HSum.out _).mono ?_);rintro e w3 ⟨rfl,rfl⟩;obtain ⟨q0,q1,q2⟩:=j2.facts))
  | (at_builtin;refine wpList_append_any _ rfl _ _ _ rfl 0 112 _ 1 8 Tryz.underlying109 info78 rfl (by omega) (.slice none 0 0) 0 [] rfl (World.ownsRow_nil _ _ _ _) _ (some ⟨w2.heap.size+1,0,none⟩) 1 1 [.int .u64 initS] rfl (Reads.newS _ [.int .u64 initS] 112 (0,0) 1 1 rfl _ (by simp)) (by simp[Value.oneCell']) (by simp only[maxLen];omega) (by omega) (by simp) ?_;intro A6 c6 w6 hown6 hgr6 hat6;have j6:=(j2.alloc _).grown hgr6 (by simp[Value.ownBlock]);obtain ⟨z0,z1,z2⟩:=j6.facts))
 have F7:Fr (fun _=>False) w2 (w6.setCell ⟨w2.heap.size,2,none⟩ (.slice A6 1 c6)):=((((Fr.refl _ _).alloc _).alloc _).grown hgr6 (fun k hk=>by cases hk)).setCell (.inr (by simp)) _
 have o6:w6.ownsRow 0 112 1 (.slice A6 1 c6) 1 (u64s [initS]):=by simpa [u64s] using hown6
 have so7:=own_set o6 (own_ne o6 j6 (by decide)) (p:=⟨w2.heap.size,2,none⟩) (.slice A6 1 c6)
 have jb7:=j6.set_ 2 (.slice A6 1 c6)
 simp only[σa,σc,σb] at jb7
 have zs7:∀ g,(Value.slice A6 1 c6).ownBlock=some g→w2.heap.size<g:=by
  intro g hg
  rcases hat6 with e | e
  ·rw[show (0+1:Nat)=1 from rfl] at e;rw[e] at hg;cases hg
  ·rw[show (0+1:Nat)=1 from rfl] at e;rw[e] at hg;simp at hg;omega
 have hb7:Below w2.heap.size w2 (w6.setCell ⟨w2.heap.size,2,none⟩ (.slice A6 1 c6)):=F7.below (Nat.le_refl _) (fun _ _=>id)
 have H0:JRd w2 w2.heap.size p recs w2.heap.size (.int .u64 initS) (.int .i64 0) (w6.setCell ⟨w2.heap.size,2,none⟩ (.slice A6 1 c6)):=
  ⟨0,none,0,A6,c6,[],Nat.zero_le _,rfl,rfl,⟨jb7,World.ownsRow_nil _ _ _ _,so7,Nat.le_refl _,(fun g hg=>by cases hg),fun g hg=>Nat.le_of_lt (zs7 g hg),fun r hr=>by simp at hr⟩,rfl,hb7⟩
 clear hown6 hgr6 hat6 j6 z0 z1 z2 o6 q0 q1 q2 j2 HBy HSum hb7 zs7 jb7 so7
 generalize w6.setCell ⟨w2.heap.size,2,none⟩ (.slice A6 1 c6)=W7 at *
 go_loopw [7,8] (fun vs vl wr=>JRd w2 w2.heap.size p recs w2.heap.size vs vl wr) (fun _ vl _=>data.length - (intOf vl).toNat)
 case atStart=>exact H0
 case round=>
  obtain ⟨k,Ar,cr,As,cs,rs,hk,rfl,rfl,hJ,hmap,hbel⟩:=hrel
  have hsr:=hbel.size
  have HMap:=ħ hmap
  have hrsl:rs.length=k:=by
   have:=congrArg List.length hmap
   simp at this;omega
  have hssl:(sumsF initS (recs.take k)).length=k+1:=by rw[sumsF_len,List.length_take];omega
  clear hmap
  by_cases hlt:k<recs.length
  ·obtain ⟨⟨kd,body⟩,hx⟩:∃ x,recs[k]?=some x:=⟨_,List.getElem?_eq_getElem hlt⟩
   have HTk:=ħ (show recs.take (k+1)=recs.take k ++ [(kd,body)] by rw[List.take_add_one,hx];rfl)
   have hsp:recs=recs.take k ++ ([(kd,body)] ++ recs.drop (k+1)):=by rw[←List.append_assoc,←HTk.out,List.take_append_drop]
   have hd:data=encJ initS (recs.take k) ++ (encR (lastS initS (recs.take k)) kd body ++ encJ (chF (lastS initS (recs.take k)) kd body) (recs.drop (k+1))):=by
    rw[←HDa.out];conv=>lhs;rw[hsp]
    rw[encJ_app];rfl
   obtain ⟨hxb,hxl,hx0,hx1⟩:=HB.out _ (List.mem_of_getElem? hx)
   have hsum:=sumsF_snoc (recs.take k) initS kd body
   rw[←HTk.out] at hsum
   have HSum:=ħ hsum
   have HLa:=ħ (HTk.out ▸ lastS_snoc (recs.take k) initS kd body)
   have HEn:=ħ (HTk.out ▸ encJ_snoc (recs.take k) initS kd body)
   have hdl:data.length=(encJ initS (recs.take k)).length+(encR (lastS initS (recs.take k)) kd body ++ encJ (chF (lastS initS (recs.take k)) kd body) (recs.drop (k+1))).length:=(congrArg List.length hd).trans List.length_append
   have hcut:=Reads.cutB R2.out (k:=(encJ initS (recs.take k)).length) (c:=c2) (by omega) hc2
   have hdr:data.drop (encJ initS (recs.take k)).length=encR (lastS initS (recs.take k)) kd body ++ encJ (chF (lastS initS (recs.take k)) kd body) (recs.drop (k+1)):=by
    conv=>lhs;rw[hd]
    rw[List.drop_left]
   rw[hdr] at hcut
   have hpos:0<(encR (lastS initS (recs.take k)) kd body).length:=by unfold encR;simp;omega
   have HRR:=ħ fun W' x=>readRecord_ok (fun k=>k<w2.heap.size) (cutA A2 c2 (encJ initS (recs.take k)).length) (c2 - (encJ initS (recs.take k)).length) (lastS initS (recs.take k)) kd hx0 hx1 body (encJ (chF (lastS initS (recs.take k)) kd body) (recs.drop (k+1))) hxl hxb W' x (by omega) (by rw[List.length_append] at hdl;omega)
   have hcutr:=hcut.below hbel (fun _ h=>h)
   have r1:∀ W:World,(Instr.slice 46 (.slice A2 data.length c2) (some (.int .i64 ((encJ initS (recs.take k)).length:Int))) none none).run Tryz.prog W=.ok (.slice (cutA A2 c2 (encJ initS (recs.take k)).length) (encR (lastS initS (recs.take k)) kd body ++ encJ (chF (lastS initS (recs.take k)) kd body) (recs.drop (k+1))).length (c2 - (encJ initS (recs.take k)).length)) W:=fun W=>by
    have:=run_cutB (A:=A2) (n:=data.length) (c:=c2) (encJ initS (recs.take k)).length (by omega) W
    rw[show data.length - (encJ initS (recs.take k)).length=(encR (lastS initS (recs.take k)) kd body ++ encJ (chF (lastS initS (recs.take k)) kd body) (recs.drop (k+1))).length by omega] at this
    exact this
   have r2:∀ W:World,(Instr.sliceAt 46 (.slice A2 data.length c2) (some (.int .i64 ((encJ initS (recs.take k)).length:Int))) none none).run Tryz.prog W=.ok (.slice (cutA A2 c2 (encJ initS (recs.take k)).length) (encR (lastS initS (recs.take k)) kd body ++ encJ (chF (lastS initS (recs.take k)) kd body) (recs.drop (k+1))).length (c2 - (encJ initS (recs.take k)).length)) W:=fun W=>by
    have:=run_cutB2 (A:=A2) (n:=data.length) (c:=c2) (encJ initS (recs.take k)).length (by omega) W
    rw[show data.length - (encJ initS (recs.take k)).length=(encR (lastS initS (recs.take k)) kd body ++ encJ (chF (lastS initS (recs.take k)) kd body) (recs.drop (k+1))).length by omega] at this
    exact this
   have HRR:=ħ (HRR.out wr hcutr)
   have hfin:(encJ initS (recs.take k)).length+(encR (lastS initS (recs.take k)) kd body).length≤data.length:=by rw[List.length_append] at hdl;omega
   clear hsum hd hdl hdr hcut hcutr hsp hx
   generalize hE:encR (lastS initS (recs.take k)) kd body=en at *
   generalize hR:en ++ encJ (chF (lastS initS (recs.take k)) kd body) (recs.drop (k+1))=enr at *
   generalize hC:chF (lastS initS (recs.take k)) kd body=sm at *
   generalize hL:encJ initS (recs.take k)=ek at *
   generalize hLs:lastS initS (recs.take k)=ls at *
   generalize hSs:sumsF initS (recs.take k)=ss at *
   clear hE hR hC hL hLs hSs
   have HJ:=ħ hJ
   have HRs:=ħ hrsl
   have HSs:=ħ hssl
   clear hJ hrsl hssl hk
   clear H0
   go_wp2_with fail
   refine HRR.out.mono ?_
   rintro e w3 ⟨A3,c3,rfl,r3,hB3⟩
   have hJ3:=HJ.out.fr (Fr.of_below (S:=fun _=>False) hB3) (fun _ _=>id)
   have b3:=hbel.trans (hB3.mono hsr)
   have s3:=hB3.size
   have g4:Blk (w3.alloc (.cells #[.int .u8 kd,.slice A3 body.length c3] 115)) w3.heap.size 115 #[.int .u8 kd,.slice A3 body.length c3]:=Blk.new w3 115 _
   have J4:=hJ3.fr (w':=w3.alloc (.cells #[.int .u8 kd,.slice A3 body.length c3] 115)) ((Fr.refl (fun _=>False) _).alloc _) (fun _ _=>id)
   have b4:=b3.alloc (b3.size) (.cells #[.int .u8 kd,.slice A3 body.length c3] 115)
   have rd4:=r3.alloc (.cells #[.int .u8 kd,.slice A3 body.length c3] 115)
   clear hJ3 HRR HB
   go_upto_region 14 with (fail)
   generalize w3.alloc (.cells #[.int .u8 kd,.slice A3 body.length c3] 115)=W4 at *
   have hr35:=HRs.out
   have hl35:rs.length≤1000000:=by omega
   have hls:ss.length≤1000001:=by have:=HSs.out;omega
   have lg4:=g4.lt
   have HOr:=ħ fun g (hg:(Value.slice Ar rs.length cr).ownBlock=some g)=>own_lt J4.ro hg
   have HOs:=ħ fun g (hg:(Value.slice As ss.length cs).ownBlock=some g)=>own_lt J4.so hg
   have hzj:w2.heap.size<W4.heap.size:=by omega
   clear hr35
   have HCl:=ħ fun (W':World) (B':Nat→Prop) (x:Reads W' B' 1 A3 body.length (bys body))=>clone_any B' kd A3 c3 body W' x (by omega)
   have HK3:=ħ fun W' (x:Below W4.heap.size W4 W')=>(show W'.cell? ⟨w2.heap.size,1,none⟩=some (.slice Ar rs.length cr)∧W'.cell? ⟨w3.heap.size,0,none⟩=some (.int .u8 kd)∧W'.cell? ⟨w3.heap.size,1,none⟩=some (.slice A3 body.length c3) from ⟨(J4.jb.below x J4.jb.lt).cell 1,(g4.below x g4.lt).cell 0,(g4.below x g4.lt).cell 1⟩)
   have jb3:=J4.jb
   have ro3:=J4.ro
   have HJ4:=ħ J4
   clear J4
   go_cut [] (fun wx=>∃ (A5:Option Addr) (c5:Nat) (Ar5:Option Addr) (cr5:Nat),Blk wx w2.heap.size 111 #[.pointer (some ⟨p,0,none⟩),.slice Ar5 (rs.length+1) cr5,.slice As ss.length cs]∧wx.ownsRow 0 115 2 (.slice Ar5 (rs.length+1) cr5) (rs.length+1) ((rs ++ [Rc.mk kd A5 c5 body]).flatMap rcL)∧Reads wx (fun k=>W4.heap.size≤k∧(Value.slice Ar5 (rs.length+1) cr5).ownBlock≠some k) 1 A5 body.length (bys body)∧(∀ g,(Value.slice Ar5 (rs.length+1) cr5).ownBlock=some g→(Value.slice Ar rs.length cr).ownBlock=some g∨W4.heap.size≤g)∧Fr (fun k=>k=w2.heap.size∨(Value.slice Ar rs.length cr).ownBlock=some k) W4 wx)
   case first=>
    obtain ⟨k1,k2,k3⟩:=HK3.out _ (Below.refl _ _)
    go_region_law (first
     | (refine step_append_any _ (by rfl) (.tmp 59) (.tmp 62) _ (by rfl) 0 115 _ 2 32 Tryz.underlying91 info35 rfl (by omega) (.slice Ar rs.length cr) rs.length (rs.flatMap rcL) (by rfl) ro4 _ (some ⟨w4.heap.size,0,none⟩) 1 1 [.int .u8 kd,.slice A4 body.length c4] (by rfl) (Reads.newS _ [.int .u8 kd,.slice A4 body.length c4] 115 (0,0) 1 2 rfl _ rfl) (by intro u hu;simp at hu;rcases hu with rfl | rfl <;> rfl) (by simp only[maxLen];omega) (by omega) (by simp) ?_
        intro A5 c5 w5 hown5 hgr5 hat5
        have j5:=(jb4.alloc (.cells #[.int .u8 kd,.slice A4 body.length c4] 115)).grown hgr5 (fun e=>own_ne ro4 (jb4.alloc _) (by decide) _ e.symm rfl)
        obtain ⟨y0,y1,y2⟩:=j5.facts)
     | (go_simp;((with_reducible refine (HCl.out _ _ (rd4.drew)).mono ?_);rintro e w4 ⟨A4,c4,rfl,r4,hB4⟩;have B4:=((Below.refl W4.heap.size W4).drew).trans hB4;obtain ⟨m1,m2,m3⟩:=HK3.out _ B4;have jb4:=jb3.below B4 jb3.lt;have lj4:=jb4.lt;have lg4:=(g4.below B4 g4.lt).lt;have ro4:=(own_fr ro3 (Fr.of_below (S:=fun _=>False) B4) (fun _ _=>id)).alloc (.cells #[.int .u8 kd,.slice A4 body.length c4] 115))))
    all_goals
     go_wp2_with fail
     go_meet
     case rel=>
      have hs4:=B4.size
      have n5:=own_ne ro4 (jb4.alloc (.cells #[.int .u8 kd,.slice A4 body.length c4] 115)) (by decide)
      have o5:w5.ownsRow 0 115 2 (.slice A5 (rs.length+1) c5) (rs.length+1) ((rs ++ [Rc.mk kd A4 c4 body]).flatMap rcL):=by simpa [rcL] using hown5
      have hown:∀ g,(Value.slice A5 (rs.length+1) c5).ownBlock=some g→(Value.slice Ar rs.length cr).ownBlock=some g∨w4.heap.size<g:=by
       intro g hg
       rcases hat5 with e | e
       ·left;rw[←e];exact hg
       ·right;rw[e] at hg;simp at hg;omega
      have r5:Reads w5 (fun k=>W4.heap.size≤k∧(Value.slice A5 (rs.length+1) c5).ownBlock≠some k) 1 A4 body.length (bys body):=by
       refine ((((r4.old (by omega)).alloc (.cells #[.int .u8 kd,.slice A4 body.length c4] 115)).grown hgr5 (fun k hk e=>?_)).more (fun k hk=>⟨?_,fun e=>?_⟩))
       ·have:=HOr.out k e.symm
        have:=hk.1
        simp at this;omega
       ·have:=hk.1
        simpa using this
       ·rcases hown k e with e' | e'
        ·have:=HOr.out k e'
         have:=hk.1
         simp at this;omega
        ·omega
      refine ⟨A4,c4,A5,c5,by simpa using j5.set_ 1 (.slice A5 (rs.length+1) c5),own_set o5 (own_ne o5 j5 (by decide)) _,r5.setCell (fun hk=>?_) _,fun g hg=>(hown g hg).elim .inl (fun e=>.inr (by omega)),?_⟩
      ·have:=hk.1
       simp at this;omega
      ·exact (((Fr.of_below B4).alloc _).grown hgr5 (fun k hk=>.inl (.inr hk))).setCell (.inl (.inl rfl)) _
   case rest=>
    obtain ⟨A5,c5,Ar5,cr5,jbc,roc,rdc,hoc,hfc⟩:=hcut
    obtain ⟨wd,rfl⟩:∃ wd:World,wd=wc:=⟨_,rfl⟩
    have soc:=own_fr HJ4.out.so hfc (fun g hg hh=>hh.elim (fun e=>own_ne HJ4.out.so jb3 (by decide) g hg e) (fun e=>own_type ro3 HJ4.out.so (by decide) g e hg))
    have nsc:=own_ne soc jbc (by decide)
    have hsc:=hfc.size
    obtain ⟨y0,y1,y2⟩:=jbc.facts
    clear HCl HK3
    go_wp2_with (at_builtin;refine wpList_append_any _ rfl _ _ _ rfl 0 112 _ 1 8 Tryz.underlying109 info78 rfl (by omega) (.slice As ss.length cs) ss.length (u64s ss) rfl (soc.alloc _) _ (some ⟨wd.heap.size,0,none⟩) 1 1 [.int .u64 sm] rfl (Reads.newS _ [.int .u64 sm] 112 (0,0) 1 1 rfl _ rfl) (by simp[Value.oneCell']) (by simp only[maxLen];omega) (by omega) (by simp) ?_;intro A6 c6 w6 hown6 hgr6 hat6;have j6:=(jbc.alloc _).grown hgr6 (fun e=>nsc _ e.symm rfl);obtain ⟨z0,z1,z2⟩:=j6.facts)
    refine ⟨?_,by simp[intOf];omega⟩
    have F67:Fr (fun k=>k=w2.heap.size∨(Value.slice As ss.length cs).ownBlock=some k) wd (w6.setCell ⟨w2.heap.size,2,none⟩ (.slice A6 (ss.length+1) c6)):=(((Fr.refl _ _).alloc _).grown hgr6 (fun k hk=>.inl (.inr hk))).setCell (.inl (.inl rfl)) _
    have ro7:=own_fr roc F67 (fun g hg hh=>hh.elim (fun e=>own_ne roc jbc (by decide) g hg e) (fun e=>own_type roc soc (by decide) g hg e))
    have e5:(rs ++ [Rc.mk kd A5 c5 body]).length=rs.length+1:=by simp
    have e6:(ss ++ [sm]).length=ss.length+1:=by simp
    have o6:w6.ownsRow 0 112 1 (.slice A6 (ss.length+1) c6) (ss.length+1) (u64s (ss ++ [sm])):=by simpa [u64s] using hown6
    have so7:=own_set o6 (own_ne o6 j6 (by decide)) (p:=⟨w2.heap.size,2,none⟩) (.slice A6 (ss.length+1) c6)
    have jb7:=j6.set_ 2 (.slice A6 (ss.length+1) c6)
    simp only[σa,σc,σb] at jb7
    have hos:∀ g,(Value.slice A6 (ss.length+1) c6).ownBlock=some g→(Value.slice As ss.length cs).ownBlock=some g∨wd.heap.size<g:=by
     intro g hg
     rcases hat6 with e | e
     ·left;rw[←e];exact hg
     ·right;rw[e] at hg;simp at hg;omega
    have hmj:=HJ4.out.zj
    refine ⟨k+1,Ar5,cr5,A6,c6,rs ++ [Rc.mk kd A5 c5 body],by omega,by rw[HLa.out],by rw[HEn.out,List.length_append];simp,?_,by rw[HTk.out,List.map_append,HMap.out];rfl,?_⟩
    ·rw[HSum.out]
     refine ⟨by rw[e5,e6];exact jb7,by rw[e5];exact ro7,by rw[e6];exact so7,hmj,?_,?_,?_⟩
     ·intro g hg
      rw[e5] at hg
      rcases hoc g hg with e | e
      ·exact HJ4.out.zr g e
      ·omega
     ·intro g hg
      rw[e6] at hg
      rcases hos g hg with e | e
      ·exact HJ4.out.zs g e
      ·omega
     ·intro r hr
      rw[e5,e6]
      rcases List.mem_append.1 hr with hr | hr
      ·refine ((((HJ4.out.bd r hr).old (by omega)).fr hfc (fun k hk hh=>hh.elim (fun e=>hk.1.2.1 e) (fun e=>hk.1.2.2.1 e))).fr F67 (fun k hk hh=>hh.elim (fun e=>hk.1.2.1 e) (fun e=>hk.1.2.2.2 e))).more (fun k hk=>⟨hk.1.1,hk.1.2.1,fun e=>?_,fun e=>?_⟩)
       ·rcases hoc k e with e' | e'
        ·exact hk.1.2.2.1 e'
        ·have:=hk.2;omega
       ·rcases hos k e with e' | e'
        ·exact hk.1.2.2.2 e'
        ·have:=hk.2;omega
      ·obtain rfl:r=Rc.mk kd A5 c5 body:=by simpa using hr
       refine (((rdc.old (by omega)).fr F67 (fun k hk hh=>hh.elim (fun e=>by have:=hk.1.1;omega) (fun e=>by have:=HOs.out k e;have:=hk.1.1;omega)))).more (fun k hk=>⟨by have:=hk.1.1;omega,by have:=hk.1.1;omega,hk.1.2,fun e=>?_⟩)
       rcases hos k e with e' | e'
       ·have:=HOs.out k e';have:=hk.1.1;omega
       ·have:=hk.2;omega
    ·refine b4.trans ((hfc.below (B:=w2.heap.size) (by omega) (fun k hk hh=>?_)).trans (F67.below (B:=w2.heap.size) (by omega) (fun k hk hh=>?_)))
     ·rcases hh with e | e
      ·omega
      ·have:=HJ4.out.zr k e;omega
     ·rcases hh with e | e
      ·omega
      ·have:=HJ4.out.zs k e;omega
  ·have he:k=recs.length:=by omega
   subst he
   rw[List.take_length] at hJ HMap
   simp only[List.take_length]
   rw[HDa.out]
   have r1:∀ W:World,(Instr.slice 46 (.slice A2 data.length c2) (some (.int .i64 (data.length:Int))) none none).run Tryz.prog W=.ok (.slice (cutA A2 c2 data.length) 0 (c2 - data.length)) W:=fun W=>by
    have:=run_cutB (A:=A2) (n:=data.length) (c:=c2) data.length (Nat.le_refl _) W
    rwa [Nat.sub_self] at this
   have r2:∀ W:World,(Instr.sliceAt 46 (.slice A2 data.length c2) (some (.int .i64 (data.length:Int))) none none).run Tryz.prog W=.ok (.slice (cutA A2 c2 data.length) 0 (c2 - data.length)) W:=fun W=>by
    have:=run_cutB2 (A:=A2) (n:=data.length) (c:=c2) data.length (Nat.le_refl _) W
    rwa [Nat.sub_self] at this
   have HRR:=ħ (HRN.out (cutA A2 c2 data.length) (c2 - data.length) (lastS initS recs) wr)
   have HJ:=ħ hJ
   clear hJ hrsl hssl hk HRN H0 hlt
   generalize lastS initS recs=ls at *
   go_wp2_with fail
   refine HRR.out.mono ?_
   rintro e w8 ⟨rfl,hB8⟩
   have F8:Fr (fun _=>False) wr (w8.alloc (.cells #[.int .u8 0,.slice none 0 0] 115)):=(Fr.of_below hB8).alloc _
   have J8:=ħ (HJ.out.fr F8 (fun _ _=>id))
   have b8:Below w2.heap.size w2 (w8.alloc (.cells #[.int .u8 0,.slice none 0 0] 115)):=hbel.trans (F8.below hsr (fun _ _=>id))
   have h8:=ħ (h2.out.fr (Fr.of_below (S:=fun _=>False) b8) id (fun _ _=>id))
   have HTr:=ħ (truncate_full _ p X data data.length h8.out (by omega))
   have hs8:=F8.size
   clear HRR HJ
   go_wp2_with fail
   generalize w8.alloc (.cells #[.int .u8 0,.slice none 0 0] 115)=W8 at *
   refine HTr.out.mono ?_
   rintro e w9 ⟨rfl,h9,hf9⟩
   have HSy:=ħ (sync_any w9 p X data data.length h9)
   clear h9
   go_wp2_with fail
   refine HSy.out.mono ?_
   rintro e w10 ⟨rfl,h10,hf10⟩
   have H10:=ħ h10
   clear h10
   go_wp2
   obtain ⟨Af,cf,fb,fo,zf⟩:=H10.out
   have F910:=hf9.trans hf10
   have J10:=J8.out.fr F910 (fun g hg e=>by omega)
   have hdl2:encJ initS recs=data:=HDa.out
   have zfl:∀ g,(Value.slice Af data.length cf).ownBlock=some g→g<w2.heap.size:=by
    intro g hg
    have:=HX.out g (zf g hg)
    omega
   refine bodyPost_ret (v:=.tuple #[.pointer (some ⟨w2.heap.size,0,none⟩),.int .i64 0]) (by simp[results,Tryz.results31,go_sem]) rfl ⟨w2.heap.size,rfl,hs2,⟨Af,cf,Ar,cr,As,cs,rs,?_,HMap.out⟩,((Fr.of_below hB2).trans (Fr.of_below (S:=fun k=>k=p) b8)).trans F910⟩
   rw[hdl2]
   refine ⟨fb,fo,J10.jb,J10.ro,J10.so,.inl rfl,.inr (.inr (by have:=J10.zj;omega)),fun g hg=>.inr (.inl (zf g hg)),fun g hg=>.inr (.inr (by have:=J10.zr g hg;omega)),fun g hg=>.inr (.inr (by have:=J10.zs g hg;omega)),fun r hr=>(J10.bd r hr).more (fun k hk=>⟨.inr (.inr (by have:=hk.1;omega)),by have:=hk.1;omega,hk.2.1,fun e=>?_,hk.2.2.1,hk.2.2.2⟩)⟩
   have:=zfl k e
   have:=hk.1
   omega
theorem FileP.cut {w:World}{p:Nat}{X:Nat→Prop}{data:List Int}{dur:Int}{off:Bool}(h:FileP w p X data dur off):FileP w p (fun k=>X k∧k<w.heap.size) data dur off:=by
 obtain ⟨A,c,h1,h2,h3⟩:=h
 exact ⟨A,c,h1,h2,fun g hg=>⟨h3 g hg,own_lt h2 hg⟩⟩
end Go.Proofs.YtdfobfjpkjddpaaGreat
namespace Go.Proofs.YtdfobfjpkjddpaaGreat
open Go.RowKit Go.Own Go.Quo Go.Wire
theorem JS.wider {w:World}{Z Z':Nat→Prop}{p j:Nat}{recs:List (Int × List Int)}{dur:Int}{off:Bool}(h:JS w Z p j recs dur off)(hZ:∀ k,Z k→Z' k):JS w Z' p j recs dur off:=by
 obtain ⟨A,c,Ar,cr,As,cs,rs,h1,h2⟩:=h
 exact ⟨A,c,Ar,cr,As,cs,rs,⟨h1.fb,h1.fo,h1.jb,h1.ro,h1.so,hZ _ h1.zp,hZ _ h1.zj,fun g hg=>hZ _ (h1.zf g hg),fun g hg=>hZ _ (h1.zr g hg),fun g hg=>hZ _ (h1.zs g hg),fun r hr=>(h1.bd r hr).more (fun k hk=>⟨hZ _ hk.1,hk.2⟩)⟩,h2⟩
def RecsOk (recs:List (Int × List Int)):Prop:=∀ x∈recs,Bytes x.2∧x.2.length≤8192∧0≤x.1∧x.1<256
theorem jopen_any (w:World)(p:Nat)(X:Nat→Prop)(recs:List (Int × List Int))(h:FileP w p X (encJ initS recs) (encJ initS recs).length false)(hl:(encJ initS recs).length≤16777216)(hrl:recs.length≤1000000)(hb:RecsOk recs) :
 Calls Tryz.prog 31 #[.pointer (some ⟨p,0,none⟩)] w (JOPost p recs X w):=by
 refine (jopen_cut w p _ recs (fun k hk=>hk.2) h.cut hl hrl hb).mono ?_
 rintro e w' ⟨j,rfl,hj,hjs,hf⟩
 exact ⟨j,rfl,hj,hjs.wider (fun k hk=>hk.elim .inl (fun e=>e.elim (fun e=>.inr (.inl e.1)) (fun e=>.inr (.inr e)))),hf⟩
end Go.Proofs.YtdfobfjpkjddpaaGreat
