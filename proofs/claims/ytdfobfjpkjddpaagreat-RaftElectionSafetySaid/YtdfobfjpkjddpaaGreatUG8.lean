import Derived.Test.YtdfobfjpkjddpaaGreatUG3
import Derived.Deep.RegionHeld
import Derived.Deep.DeepCutAuto
set_option linter.unusedVariables false
set_option linter.unusedSimpArgs false
set_option maxRecDepth 10000
set_option maxHeartbeats 4000000
namespace Go.Proofs.YtdfobfjpkjddpaaGreat
open Go.RowKit Go.Own Go.Quo Go.Wire
structure Rc where
 kind:Int
 A:Option Addr
 c:Nat
 body:List Int
def rcL (r:Rc):List Value:=[.int .u8 r.kind,.slice r.A r.body.length r.c]
theorem rcL_len (r:Rc):(rcL r).length=2:=rfl
abbrev u64s (l:List Int):List Value:=l.map (Value.int .u64)
theorem info35:(Tryz.prog.info? 115).map (fun i=>(i.zero,i.size,i.bytes))=some (some (.agg #[.int .u8 0,.slice none 0 0]),2,32):=by kernel_rfl
theorem info78:(Tryz.prog.info? 112).map (fun i=>(i.zero,i.size,i.bytes))=some (some (.int .u64 0),1,8):=by kernel_rfl
theorem i78x:∃ i,Tryz.prog.info? 112=some i∧i.size=1:=by obtain ⟨i,h,_,h2,_⟩:=info_parts info78;exact ⟨i,h,h2⟩
theorem ix75 {A:Option Addr}{n:Nat}(hA:Plain A n)(c k:Nat)(hk:k<n)(w:World):(Instr.indexAt 109 (.slice A n c) (.int .i64 (k:Int))).run Tryz.prog w=.ok (.pointer (some ⟨bk A,ofs A+k,none⟩)) w:=by
 obtain ⟨i,h1,h2⟩:=i78x
 simpa using run_indexAt2 (P:=Tryz.prog) Tryz.underlying109 h1 h2 hA c k hk w
structure JZ (w:World) (Z:Nat→Prop) (p j:Nat) (A:Option Addr) (c:Nat) (Ar:Option Addr) (cr:Nat) (As:Option Addr) (cs:Nat) (rs:List Rc) (sums data:List Int) (dur:Int) (off:Bool):Prop where
 fb:Blk w p 95 #[.slice A data.length c,.int .i64 dur,.bool off]
 fo:w.ownsRow 0 5 1 (.slice A data.length c) data.length (bys data)
 jb:Blk w j 111 #[.pointer (some ⟨p,0,none⟩),.slice Ar rs.length cr,.slice As sums.length cs]
 ro:w.ownsRow 0 115 2 (.slice Ar rs.length cr) rs.length (rs.flatMap rcL)
 so:w.ownsRow 0 112 1 (.slice As sums.length cs) sums.length (u64s sums)
 zp:Z p
 zj:Z j
 zf:∀ g,(Value.slice A data.length c).ownBlock=some g→Z g
 zr:∀ g,(Value.slice Ar rs.length cr).ownBlock=some g→Z g
 zs:∀ g,(Value.slice As sums.length cs).ownBlock=some g→Z g
 bd:∀ r∈rs,Reads w (fun k=>Z k∧k≠p∧k≠j∧(Value.slice A data.length c).ownBlock≠some k∧(Value.slice Ar rs.length cr).ownBlock≠some k∧(Value.slice As sums.length cs).ownBlock≠some k) 1 r.A r.body.length (bys r.body)
theorem own_fr {w w':World}{base:Nat}{e:TypeId}{size n:Nat}{v:Value}{xs:List Value}{S:Nat→Prop}(h:w.ownsRow base e size v n xs)(hf:Fr S w w')(hS:∀ g,v.ownBlock=some g→¬ S g):w'.ownsRow base e size v n xs:=by
 rcases h.2 with ⟨e1,e2⟩ | ⟨g,cap,cur,e1,e2,e3,e4⟩
 ·exact ⟨h.1,.inl ⟨e1,e2⟩⟩
 ·exact ⟨h.1,.inr ⟨g,cap,cur,e1,e2,(hf.block g (Array.getElem?_eq_some_iff.1 e3).1 (hS g (by rw[e1];rfl))).trans e3,e4⟩⟩
theorem JZ.fr {w w':World}{Z S:Nat→Prop}{p j:Nat}{A:Option Addr}{c:Nat}{Ar:Option Addr}{cr:Nat}{As:Option Addr}{cs:Nat}{rs:List Rc}{sums data:List Int}{dur:Int}{off:Bool}(h:JZ w Z p j A c Ar cr As cs rs sums data dur off)(hf:Fr S w w')(hS:∀ g,Z g→¬ S g):JZ w' Z p j A c Ar cr As cs rs sums data dur off:=
 ⟨h.fb.fr hf (hS _ h.zp),own_fr h.fo hf (fun g hg=>hS g (h.zf g hg)),h.jb.fr hf (hS _ h.zj),own_fr h.ro hf (fun g hg=>hS g (h.zr g hg)),own_fr h.so hf (fun g hg=>hS g (h.zs g hg)),h.zp,h.zj,h.zf,h.zr,h.zs,fun r hr=>(h.bd r hr).fr hf (fun k hk=>hS k hk.1)⟩
theorem own_lt {w:World}{base:Nat}{e:TypeId}{size n:Nat}{v:Value}{xs:List Value}(h:w.ownsRow base e size v n xs){g:Nat}(hg:v.ownBlock=some g):g<w.heap.size:=(h.lt g hg).2
theorem own_type {w:World}{b1 b2:Nat}{e1 e2:TypeId}{s1 s2 n1 n2:Nat}{v1 v2:Value}{x1 x2:List Value}(h1:w.ownsRow b1 e1 s1 v1 n1 x1)(h2:w.ownsRow b2 e2 s2 v2 n2 x2)(hne:e1≠e2):∀ g,v1.ownBlock=some g→v2.ownBlock≠some g:=by
 intro g k1 k2
 rcases h1.2 with ⟨a1,a2⟩ | ⟨g1,cap1,cur1,a1,a2,a3,_⟩
 ·rw[a1] at k1;cases k1
 ·rcases h2.2 with ⟨c1,c2⟩ | ⟨g2,cap2,cur2,c1,c2,c3,_⟩
  ·rw[c1] at k2;cases k2
  ·rw[a1] at k1;rw[c1] at k2
   simp[Value.ownBlock] at k1 k2
   subst k1 k2
   rw[a3] at c3
   injection c3 with c3
   injection c3 with _ c4
   exact hne c4
def JApPost (Z:Nat→Prop)(p j:Nat)(kind:Int)(body:List Int)(rs:List Rc)(sums data R:List Int)(sm dur:Int)(w:World)(e:Ending)(w':World):Prop:=
 ∃ (A:Option Addr) (c:Nat) (Ar:Option Addr) (cr:Nat) (As:Option Addr) (cs:Nat) (A5:Option Addr) (c5:Nat),e=.returned (.int .i64 0)∧JZ w' (fun k=>Z k∨w.heap.size≤k) p j A c Ar cr As cs (rs ++ [Rc.mk kind A5 c5 body]) (sums ++ [sm]) (data ++ R) dur false∧Fr Z w w'
theorem jappend_any (w:World)(Z:Nat→Prop)(p j:Nat)(A:Option Addr)(c:Nat)(Ar:Option Addr)(cr:Nat)(As:Option Addr)(cs:Nat)(rs:List Rc)(sums data:List Int)(dur prev kind:Int)(A0:Option Addr)(c0:Nat)(body:List Int)
 (h:JZ w Z p j A c Ar cr As cs rs sums data dur false) (hk0:0≤kind) (hk1:kind<256) (hB:Bytes body) (hbl:body.length≤8192) (hb:Reads w (fun k=>¬ Z k) 1 A0 body.length (bys body))
 (hsl:sums.length=rs.length+1) (hprev:gd sums rs.length=prev) (hfit:data.length+(encR prev kind body).length≤16777216) (hrl:rs.length≤1000000) :
 Calls Tryz.prog 136 #[.pointer (some ⟨j,0,none⟩),recV kind A0 body.length c0] w (JApPost Z p j kind body rs sums data (encR prev kind body) (chF prev kind body) dur w):=by
 have hw:¬ ((8192:Int)<body.length):=by omega
 have b1:=hb.alloc (.cells (recC kind A0 body.length c0) 115)
 have f1:Fr (fun _=>False) w (w.alloc (.cells (recC kind A0 body.length c0) 115)):=(Fr.refl _ _).alloc _
 have h1:=h.fr f1 (fun _ _=>id)
 have g1:Blk (w.alloc (.cells (recC kind A0 body.length c0) 115)) w.heap.size 115 (recC kind A0 body.length c0):=Blk.new w 115 _
 have hpj:p≠j:=h.fb.ne_ h.jb (by decide)
 have hpl:=h.fb.lt
 have hjl:=h.jb.lt
 have HOf:=ħ fun g (hg:(Value.slice A data.length c).ownBlock=some g)=>own_lt h.fo hg
 have HOr:=ħ fun g (hg:(Value.slice Ar rs.length cr).ownBlock=some g)=>own_lt h.ro hg
 have HOs:=ħ fun g (hg:(Value.slice As sums.length cs).ownBlock=some g)=>own_lt h.so hg
 have HS:=ħ (show rs.length<sums.length by omega)
 have hps:=(Reads.of_own h.so).plain (by omega)
 have hix:=fun W=>ix75 hps cs rs.length HS.out W
 have HK:=ħ fun W' (x:Below (w.alloc (.cells (recC kind A0 body.length c0) 115)).heap.size (w.alloc (.cells (recC kind A0 body.length c0) 115)) W')=>(show W'.cell? ⟨j,1,none⟩=some (.slice Ar rs.length cr)∧W'.cell? ⟨j,2,none⟩=some (.slice As sums.length cs)∧W'.cell? ⟨bk As,ofs As+rs.length,none⟩=some (.int .u64 prev)∧W'.cell? ⟨w.heap.size,0,none⟩=some (.int .u8 kind)∧W'.cell? ⟨w.heap.size,1,none⟩=some (.slice A0 body.length c0) by
  have h2:=h1.fr (Fr.of_below (S:=fun _=>False) x) (fun _ _=>id)
  have g2:=g1.below x g1.lt
  refine ⟨h2.jb.cell 1,h2.jb.cell 2,?_,g2.cell 0,g2.cell 1⟩
  have:=(Reads.of_own h2.so).cell2 rs.length (by have:=HS.out;omega) (by omega)
  rw[this]
  have hp2:=hprev
  rw[gd_get HS.out] at hp2
  simp[u64s,HS.out,hp2])
 have HAp:=ħ fun W' (x:Below (w.alloc (.cells (recC kind A0 body.length c0) 115)).heap.size (w.alloc (.cells (recC kind A0 body.length c0) 115)) W')=>appendRecord_nil prev kind hk0 hk1 A0 c0 body W' (((b1.old (by omega)).below x (fun _ hk=>hk.2)).more (fun k hk=>Nat.lt_of_lt_of_le hk.2 x.size)) hB hbl
 have HFit:=ħ hfit
 generalize encR prev kind body=R at *
 generalize chF prev kind body=sm at *
 have hsle:sums.length≤rs.length+1:=by omega
 clear hprev hsl h hb hfit
 go_enter Tryz.func136,Tryz.ntmps136
 go_wp2_with fail
 generalize w.alloc (.cells (recC kind A0 body.length c0) 115)=W1 at *
 have hsw:=f1.size
 have K1:=HK.out _ (Below.refl _ _)
 go_region_held (fun w'=>w'.cell? ⟨j,1,none⟩=some (.slice Ar rs.length cr)∧w'.cell? ⟨j,2,none⟩=some (.slice As sums.length cs)∧w'.cell? ⟨bk As,ofs As+rs.length,none⟩=some (.int .u64 prev)∧w'.cell? ⟨w.heap.size,0,none⟩=some (.int .u8 kind)∧w'.cell? ⟨w.heap.size,1,none⟩=some (.slice A0 body.length c0)) (first | assumption | exact K1) (first
  | (((with_reducible refine (HAp.out _ ((Below.refl _ _).drew)).mono ?_);rintro e W2 ⟨A2,c2,rfl,r2,hB2⟩;have B2:=((Below.refl W1.heap.size W1).drew).trans hB2;clear hB2;have K2:=HK.out _ B2)))
 have h2:=h1.fr (Fr.of_below (S:=fun _=>False) B2) (fun _ _=>id)
 have g2:=g1.below B2 g1.lt
 have b2:=((b1.old (by omega)).below B2 (fun _ hk=>hk.2)).more (B':=fun k=>¬ Z k) (fun _ hk=>hk.1)
 obtain ⟨q0,q1,q2⟩:=h2.jb.facts
 clear K1 K2 HK HAp h1 g1 b1
 go_wp2_with fail
 have hFP:FileP W2 p (fun g=>(Value.slice A data.length c).ownBlock=some g) data dur false:=⟨A,c,h2.fb,h2.fo,fun g hg=>hg⟩
 refine (write_any W2 p _ data dur _ A2 c2 R hFP r2 HFit.out).mono ?_
 rintro e w3 ⟨rfl,hF3,hf3⟩
 have jb3:=h2.jb.fr hf3 (fun hh=>hh.elim (fun e=>hpj e.symm) (fun e=>own_ne h2.fo h2.jb (by decide) _ e rfl))
 have ro3:=own_fr h2.ro hf3 (fun g hg hh=>hh.elim (fun e=>own_ne h2.ro h2.fb (by decide) g hg e) (fun e=>own_type h2.fo h2.ro (by decide) g e hg))
 have so3:=own_fr h2.so hf3 (fun g hg hh=>hh.elim (fun e=>own_ne h2.so h2.fb (by decide) g hg e) (fun e=>own_type h2.fo h2.so (by decide) g e hg))
 have bd3:=ħ fun r hr=>((h2.bd r hr).old (by omega)).fr hf3 (fun k hk hh=>hh.elim (fun e=>hk.1.2.1 e) (fun e=>hk.1.2.2.2.1 e))
 have g3:=g2.fr hf3 (fun hh=>hh.elim (fun e=>by omega) (fun e=>by have:=HOf.out _ e;omega))
 have b3:=b2.fr hf3 (fun k hk hh=>hh.elim (fun e=>hk (e ▸ h2.zp)) (fun e=>hk (h2.zf k e)))
 have hs3:=hf3.size
 have hs2:=B2.size
 obtain ⟨x0,x1,x2⟩:=jb3.facts
 clear q0 q1 q2
 go_upto_region 7 with (fail)
 have HCl:=ħ fun (W':World) (B':Nat→Prop) (x:Reads W' B' 1 A0 body.length (bys body))=>clone_any B' kind A0 c0 body W' x (by omega)
 have HK3:=ħ fun W' (x:Below w3.heap.size w3 W')=>(show W'.cell? ⟨j,1,none⟩=some (.slice Ar rs.length cr)∧W'.cell? ⟨w.heap.size,0,none⟩=some (.int .u8 kind)∧W'.cell? ⟨w.heap.size,1,none⟩=some (.slice A0 body.length c0) from ⟨(jb3.below x jb3.lt).cell 1,(g3.below x g3.lt).cell 0,(g3.below x g3.lt).cell 1⟩)
 go_cut [] (fun wx=>∃ (A5:Option Addr) (c5:Nat) (Ar5:Option Addr) (cr5:Nat),Blk wx j 111 #[.pointer (some ⟨p,0,none⟩),.slice Ar5 (rs.length+1) cr5,.slice As sums.length cs]∧wx.ownsRow 0 115 2 (.slice Ar5 (rs.length+1) cr5) (rs.length+1) ((rs ++ [Rc.mk kind A5 c5 body]).flatMap rcL)∧Reads wx (fun k=>w3.heap.size≤k∧(Value.slice Ar5 (rs.length+1) cr5).ownBlock≠some k) 1 A5 body.length (bys body)∧(∀ g,(Value.slice Ar5 (rs.length+1) cr5).ownBlock=some g→(Value.slice Ar rs.length cr).ownBlock=some g∨w3.heap.size≤g)∧Fr (fun k=>k=j∨(Value.slice Ar rs.length cr).ownBlock=some k) w3 wx)
 case first=>
  obtain ⟨k1,k2,k3⟩:=HK3.out _ (Below.refl _ _)
  go_region_law (first
   | (refine step_append_any _ (by rfl) (.tmp 41) (.tmp 44) _ (by rfl) 0 115 _ 2 32 Tryz.underlying91 info35 rfl (by omega) (.slice Ar rs.length cr) rs.length (rs.flatMap rcL) (by rfl) ro4 _ (some ⟨w4.heap.size,0,none⟩) 1 1 [.int .u8 kind,.slice A4 body.length c4] (by rfl) (Reads.newS _ [.int .u8 kind,.slice A4 body.length c4] 115 (0,0) 1 2 rfl _ rfl) (by intro u hu;simp at hu;rcases hu with rfl | rfl <;> rfl) (by simp only[maxLen];omega) (by omega) (by simp) ?_
      intro A5 c5 w5 hown5 hgr5 hat5
      have j5:=(jb4.alloc (.cells #[.int .u8 kind,.slice A4 body.length c4] 115)).grown hgr5 (fun e=>own_ne ro4 (jb4.alloc _) (by decide) _ e.symm rfl)
      obtain ⟨y0,y1,y2⟩:=j5.facts)
   | (go_simp;((with_reducible refine (HCl.out _ _ (b3.drew)).mono ?_);rintro e w4 ⟨A4,c4,rfl,r4,hB4⟩;have B4:=((Below.refl w3.heap.size w3).drew).trans hB4;obtain ⟨m1,m2,m3⟩:=HK3.out _ B4;have jb4:=jb3.below B4 jb3.lt;have lj4:=jb4.lt;have lg4:=(g3.below B4 g3.lt).lt;have ro4:=(own_fr ro3 (Fr.of_below (S:=fun _=>False) B4) (fun _ _=>id)).alloc (.cells #[.int .u8 kind,.slice A4 body.length c4] 115))))
  all_goals
   go_wp2_with fail
   go_meet
   case rel=>
    have hs4:=B4.size
    have n5:=own_ne ro4 (jb4.alloc (.cells #[.int .u8 kind,.slice A4 body.length c4] 115)) (by decide)
    have o5:w5.ownsRow 0 115 2 (.slice A5 (rs.length+1) c5) (rs.length+1) ((rs ++ [Rc.mk kind A4 c4 body]).flatMap rcL):=by simpa [rcL] using hown5
    have hown:∀ g,(Value.slice A5 (rs.length+1) c5).ownBlock=some g→(Value.slice Ar rs.length cr).ownBlock=some g∨w4.heap.size<g:=by
     intro g hg
     rcases hat5 with e | e
     ·left;rw[←e];exact hg
     ·right;rw[e] at hg;simp at hg;omega
    have r5:Reads w5 (fun k=>w3.heap.size≤k∧(Value.slice A5 (rs.length+1) c5).ownBlock≠some k) 1 A4 body.length (bys body):=by
     refine ((((r4.old (by omega)).alloc (.cells #[.int .u8 kind,.slice A4 body.length c4] 115)).grown hgr5 (fun k hk e=>?_)).more (fun k hk=>⟨?_,fun e=>?_⟩))
     ·have:=HOr.out k e.symm
      have:=hk.1
      simp at this;omega
     ·have:=hk.1
      simpa using this
     ·rcases hown k e with e' | e'
      ·have:=HOr.out k e'
       have:=hk.1
       simp at this;omega
      ·omega
    refine ⟨A4,c4,A5,c5,by simpa using j5.set_ 1 (.slice A5 (rs.length+1) c5),own_set o5 (own_ne o5 j5 (by decide)) _,r5.setCell (fun hk=>?_) _,fun g hg=>(hown g hg).elim .inl (fun e=>.inr (by omega)),?_⟩
    ·have:=hk.1
     simp at this;omega
    ·exact (((Fr.of_below B4).alloc _).grown hgr5 (fun k hk=>.inl (.inr hk))).setCell (.inl (.inl rfl)) _
 case rest=>
  obtain ⟨A5,c5,Ar5,cr5,jbc,roc,rdc,hoc,hfc⟩:=hcut
  obtain ⟨wd,rfl⟩:∃ wd:World,wd=wc:=⟨_,rfl⟩
  have soc:=own_fr so3 hfc (fun g hg hh=>hh.elim (fun e=>own_ne so3 jb3 (by decide) g hg e) (fun e=>own_type ro3 so3 (by decide) g e hg))
  have nsc:=own_ne soc jbc (by decide)
  have hsc:=hfc.size
  obtain ⟨y0,y1,y2⟩:=jbc.facts
  clear HCl HK3 x0 x1 x2
  go_wp2_with (at_builtin;refine wpList_append_any _ rfl _ _ _ rfl 0 112 _ 1 8 Tryz.underlying109 info78 rfl (by omega) (.slice As sums.length cs) sums.length (u64s sums) rfl (soc.alloc _) _ (some ⟨wd.heap.size,0,none⟩) 1 1 [.int .u64 sm] rfl (Reads.newS _ [.int .u64 sm] 112 (0,0) 1 1 rfl _ rfl) (by simp[Value.oneCell']) (by simp only[maxLen];omega) (by omega) (by simp) ?_;intro A6 c6 w6 hown6 hgr6 hat6;have j6:=(jbc.alloc _).grown hgr6 (fun e=>nsc _ e.symm rfl);obtain ⟨z0,z1,z2⟩:=j6.facts)
  go_ret
  obtain ⟨A3,c3,fb3,fo3,zf3⟩:=hF3
  have F67:Fr (fun k=>k=j∨(Value.slice As sums.length cs).ownBlock=some k) wd (w6.setCell ⟨j,2,none⟩ (.slice A6 (sums.length+1) c6)):=(((Fr.refl _ _).alloc _).grown hgr6 (fun k hk=>.inl (.inr hk))).setCell (.inl (.inl rfl)) _
  have fbc:=fb3.fr hfc (fun hh=>hh.elim (fun e=>hpj e) (fun e=>own_ne ro3 fb3 (by decide) _ e rfl))
  have foc:=own_fr fo3 hfc (fun g hg hh=>hh.elim (fun e=>own_ne fo3 jb3 (by decide) g hg e) (fun e=>own_type fo3 ro3 (by decide) g hg e))
  have fb7:=fbc.fr F67 (fun hh=>hh.elim (fun e=>hpj e) (fun e=>own_ne soc fbc (by decide) _ e rfl))
  have fo7:=own_fr foc F67 (fun g hg hh=>hh.elim (fun e=>own_ne foc jbc (by decide) g hg e) (fun e=>own_type foc soc (by decide) g hg e))
  have ro7:=own_fr roc F67 (fun g hg hh=>hh.elim (fun e=>own_ne roc jbc (by decide) g hg e) (fun e=>own_type roc soc (by decide) g hg e))
  have e6:(sums ++ [sm]).length=sums.length+1:=by simp
  have e5:(rs ++ [Rc.mk kind A5 c5 body]).length=rs.length+1:=by simp
  have o6:w6.ownsRow 0 112 1 (.slice A6 (sums.length+1) c6) (sums.length+1) (u64s (sums ++ [sm])):=by simpa [u64s] using hown6
  have so7:=own_set o6 (own_ne o6 j6 (by decide)) (p:=⟨j,2,none⟩) (.slice A6 (sums.length+1) c6)
  have jb7:=j6.set_ 2 (.slice A6 (sums.length+1) c6)
  simp only[σa,σc,σb] at jb7
  have hos:∀ g,(Value.slice A6 (sums.length+1) c6).ownBlock=some g→(Value.slice As sums.length cs).ownBlock=some g∨wd.heap.size<g:=by
   intro g hg
   rcases hat6 with e | e
   ·left;rw[←e];exact hg
   ·right;rw[e] at hg;simp at hg;omega
  have fo3l:=fun g hg=>own_lt fo3 (g:=g) hg
  refine ⟨A3,c3,Ar5,cr5,A6,c6,A5,c5,rfl,⟨fb7,fo7,by rw[e5,e6];exact jb7,by rw[e5];exact ro7,by rw[e6];exact so7,.inl h2.zp,.inl h2.zj,?_,?_,?_,?_⟩,?_⟩
  ·intro g hg
   rcases zf3 g hg with e | e
   ·exact .inl (h2.zf g e)
   ·exact .inr (by omega)
  ·intro g hg
   rw[e5] at hg
   rcases hoc g hg with e | e
   ·exact .inl (h2.zr g e)
   ·exact .inr (by omega)
  ·intro g hg
   rw[e6] at hg
   rcases hos g hg with e | e
   ·exact .inl (h2.zs g e)
   ·exact .inr (by omega)
  ·intro r hr
   rw[e5,e6]
   rcases List.mem_append.1 hr with hr | hr
   ·refine (((bd3.out r hr).fr hfc (fun k hk hh=>hh.elim (fun e=>hk.1.2.2.1 e) (fun e=>hk.1.2.2.2.2.1 e))).fr F67 (fun k hk hh=>hh.elim (fun e=>hk.1.2.2.1 e) (fun e=>hk.1.2.2.2.2.2 e))).more (fun k hk=>⟨.inl hk.1.1,hk.1.2.1,hk.1.2.2.1,fun e=>?_,fun e=>?_,fun e=>?_⟩)
    ·rcases zf3 k e with e' | e'
     ·exact hk.1.2.2.2.1 e'
     ·have:=hk.2;omega
    ·rcases hoc k e with e' | e'
     ·exact hk.1.2.2.2.2.1 e'
     ·have:=hk.2;omega
    ·rcases hos k e with e' | e'
     ·exact hk.1.2.2.2.2.2 e'
     ·have:=hk.2;omega
   ·obtain rfl:r=Rc.mk kind A5 c5 body:=by simpa using hr
    refine (((rdc.old (by omega)).fr F67 (fun k hk hh=>hh.elim (fun e=>by have:=hk.1.1;omega) (fun e=>by have:=HOs.out k e;have:=hk.1.1;omega)))).more (fun k hk=>⟨.inr (by have:=hk.1.1;omega),by have:=hk.1.1;omega,by have:=hk.1.1;omega,fun e=>by have:=fo3l k e;have:=hk.1.1;omega,hk.1.2,fun e=>?_⟩)
    rcases hos k e with e' | e'
    ·have:=HOs.out k e';have:=hk.1.1;omega
    ·have:=hk.2;omega
  ·refine (((((f1.mono (fun _ _ hh=>hh.elim)).trans ((Fr.of_below B2))).trans (hf3.mono (fun k _ hh=>hh.elim (fun e=>e ▸ h2.zp) (fun e=>h2.zf k e)))).trans (hfc.mono (fun k _ hh=>hh.elim (fun e=>e ▸ h2.zj) (fun e=>h2.zr k e)))).trans (F67.mono (fun k _ hh=>hh.elim (fun e=>e ▸ h2.zj) (fun e=>h2.zs k e))))
end Go.Proofs.YtdfobfjpkjddpaaGreat
namespace Go.Wire
def encJ:Int→List (Int × List Int)→List Int
 | _,[]=>[]
 | prev,(k,b) :: r=>encR prev k b ++ encJ (chF prev k b) r
def sumsF:Int→List (Int × List Int)→List Int
 | prev,[]=>[prev]
 | prev,(k,b) :: r=>prev :: sumsF (chF prev k b) r
def lastS:Int→List (Int × List Int)→Int
 | prev,[]=>prev
 | prev,(k,b) :: r=>lastS (chF prev k b) r
theorem encJ_snoc:∀ (l:List (Int × List Int)) (prev k:Int) (b:List Int),encJ prev (l ++ [(k,b)])=encJ prev l ++ encR (lastS prev l) k b
 | [],prev,k,b=>by simp[encJ,lastS]
 | (k',b') :: r,prev,k,b=>by
  rw[List.cons_append,encJ,encJ_snoc r,encJ,lastS,List.append_assoc]
theorem sumsF_snoc:∀ (l:List (Int × List Int)) (prev k:Int) (b:List Int),sumsF prev (l ++ [(k,b)])=sumsF prev l ++ [chF (lastS prev l) k b]
 | [],prev,k,b=>by simp[sumsF,lastS]
 | (k',b') :: r,prev,k,b=>by
  rw[List.cons_append,sumsF,sumsF_snoc r,sumsF,lastS,List.cons_append]
theorem sumsF_len:∀ (l:List (Int × List Int)) (prev:Int),(sumsF prev l).length=l.length+1
 | [],prev=>rfl
 | (k',b') :: r,prev=>by rw[sumsF,List.length_cons,sumsF_len r,List.length_cons]
theorem sumsF_last:∀ (l:List (Int × List Int)) (prev:Int),Quo.gd (sumsF prev l) l.length=lastS prev l
 | [],prev=>rfl
 | (k',b') :: r,prev=>by
  have:=sumsF_last r (chF prev k' b')
  rw[sumsF,lastS,←this]
  simp[Quo.gd]
end Go.Wire
namespace Go.Proofs.YtdfobfjpkjddpaaGreat
open Go.RowKit Go.Own Go.Quo Go.Wire
def recOf (r:Rc):Int × List Int:=(r.kind,r.body)
def JS (w:World)(Z:Nat→Prop)(p j:Nat)(recs:List (Int × List Int))(dur:Int)(off:Bool):Prop:=
 ∃ (A:Option Addr) (c:Nat) (Ar:Option Addr) (cr:Nat) (As:Option Addr) (cs:Nat) (rs:List Rc),JZ w Z p j A c Ar cr As cs rs (sumsF initS recs) (encJ initS recs) dur off∧rs.map recOf=recs
theorem JS.fr {w w':World}{Z S:Nat→Prop}{p j:Nat}{recs:List (Int × List Int)}{dur:Int}{off:Bool}(h:JS w Z p j recs dur off)(hf:Fr S w w')(hS:∀ g,Z g→¬ S g):JS w' Z p j recs dur off:=by
 obtain ⟨A,c,Ar,cr,As,cs,rs,h1,h2⟩:=h
 exact ⟨A,c,Ar,cr,As,cs,rs,h1.fr hf hS,h2⟩
def JSPost (Z:Nat→Prop)(p j:Nat)(recs:List (Int × List Int))(dur:Int)(w:World)(e:Ending)(w':World):Prop:=e=.returned (.int .i64 0)∧JS w' (fun k=>Z k∨w.heap.size≤k) p j recs dur false∧Fr Z w w'
theorem js_append (w:World)(Z:Nat→Prop)(p j:Nat)(recs:List (Int × List Int))(dur kind:Int)(A0:Option Addr)(c0:Nat)(body:List Int)
 (h:JS w Z p j recs dur false) (hk0:0≤kind) (hk1:kind<256) (hB:Bytes body) (hbl:body.length≤8192) (hb:Reads w (fun k=>¬ Z k) 1 A0 body.length (bys body))
 (hfit:(encJ initS (recs ++ [(kind,body)])).length≤16777216) (hrl:recs.length≤1000000) :
 Calls Tryz.prog 136 #[.pointer (some ⟨j,0,none⟩),recV kind A0 body.length c0] w (JSPost Z p j (recs ++ [(kind,body)]) dur w):=by
 obtain ⟨A,c,Ar,cr,As,cs,rs,h1,h2⟩:=h
 have hl:rs.length=recs.length:=by rw[←h2];simp
 rw[encJ_snoc,List.length_append] at hfit
 refine (jappend_any w Z p j A c Ar cr As cs rs _ _ dur (lastS initS recs) kind A0 c0 body h1 hk0 hk1 hB hbl hb (by rw[sumsF_len,hl]) (by rw[hl,sumsF_last]) hfit (by omega)).mono ?_
 rintro e w' ⟨A',c',Ar',cr',As',cs',A5,c5,rfl,hj,hf⟩
 refine ⟨rfl,⟨A',c',Ar',cr',As',cs',rs ++ [Rc.mk kind A5 c5 body],?_,by rw[List.map_append,h2];rfl⟩,hf⟩
 rw[sumsF_snoc,encJ_snoc]
 exact hj
theorem js_sync (w:World)(Z:Nat→Prop)(p j:Nat)(recs:List (Int × List Int))(dur:Int)(h:JS w Z p j recs dur false) :
 Calls Tryz.prog 82 #[.pointer (some ⟨j,0,none⟩)] w fun e w'=>e=.returned (.int .i64 0)∧JS w' Z p j recs (encJ initS recs).length false∧Fr Z w w':=by
 obtain ⟨A,c,Ar,cr,As,cs,rs,h1,h2⟩:=h
 have hpj:p≠j:=h1.fb.ne_ h1.jb (by decide)
 have HF:=ħ (sync_any w p (fun g=>(Value.slice A (encJ initS recs).length c).ownBlock=some g) (encJ initS recs) dur ⟨A,c,h1.fb,h1.fo,fun g hg=>hg⟩)
 obtain ⟨q0,q1,q2⟩:=h1.jb.facts
 have H2:=ħ h2
 clear h2
 go_enter Tryz.func82,Tryz.ntmps82
 go_wp2_with (go_at_call 61;((with_reducible refine HF.out.mono ?_);rintro e w2 ⟨rfl,hF2,hf2⟩))
 go_ret
 obtain ⟨A2,c2,fb2,fo2,zf2⟩:=hF2
 refine ⟨rfl,⟨A2,c2,Ar,cr,As,cs,rs,⟨fb2,fo2,h1.jb.fr hf2 (fun e=>hpj e.symm),own_fr h1.ro hf2 (fun g hg e=>own_ne h1.ro h1.fb (by decide) g hg e),own_fr h1.so hf2 (fun g hg e=>own_ne h1.so h1.fb (by decide) g hg e),h1.zp,h1.zj,fun g hg=>h1.zf g (zf2 g hg),h1.zr,h1.zs,fun r hr=>((h1.bd r hr).fr hf2 (fun k hk e=>hk.2.1 e)).more (fun k hk=>⟨hk.1,hk.2.1,hk.2.2.1,fun e=>hk.2.2.2.1 (zf2 k e),hk.2.2.2.2.1,hk.2.2.2.2.2⟩)⟩,H2.out⟩,hf2.mono (fun k _ e=>e ▸ h1.zp)⟩
theorem store_any (w:World)(Z:Nat→Prop)(p j v:Nat)(recs:List (Int × List Int))(dur kind term voted:Int)(A0:Option Addr)(c0:Nat)(body:List Int)
 (hv:Blk w v 122 #[.pointer (some ⟨j,0,none⟩),.int .i64 term,.int .i64 voted]) (hvz:¬ Z v) (h:JS w Z p j recs dur false) (hk0:0≤kind) (hk1:kind<256) (hB:Bytes body) (hbl:body.length≤8192) (hb:Reads w (fun k=>¬ Z k) 1 A0 body.length (bys body))
 (hfit:(encJ initS (recs ++ [(kind,body)])).length≤16777216) (hrl:recs.length≤1000000) :
 Calls Tryz.prog 118 #[.pointer (some ⟨v,0,none⟩),.int .u8 kind,.slice A0 body.length c0] w (JSPost Z p j (recs ++ [(kind,body)]) (encJ initS (recs ++ [(kind,body)])).length w):=by
 have HA:=ħ (js_append w Z p j recs dur kind A0 c0 body h hk0 hk1 hB hbl hb hfit hrl)
 have HS:=ħ fun W' Z' dur' (x:JS W' Z' p j (recs ++ [(kind,body)]) dur' false)=>js_sync W' Z' p j (recs ++ [(kind,body)]) dur' x
 obtain ⟨q0,q1,q2⟩:=hv.facts
 have hvl:=hv.lt
 clear h hb hB hfit
 go_enter Tryz.func118,Tryz.ntmps118
 go_wp2_with fail
 refine HA.out.mono ?_
 rintro e w2 ⟨rfl,hj2,hf2⟩
 have hv2:=hv.fr hf2 hvz
 obtain ⟨x0,x1,x2⟩:=hv2.facts
 go_wp2_with fail
 refine (HS.out w2 _ _ hj2).mono ?_
 rintro e w3 ⟨rfl,hj3,hf3⟩
 go_wp2
 go_ret
 refine ⟨rfl,hj3,?_⟩
 have hm:Fr Z w w3:=by
  refine ⟨hf3.os.trans hf2.os,hf3.tape.trans hf2.tape,hf3.output.trans hf2.output,Nat.le_trans hf2.size hf3.size,fun k hk hn=>?_⟩
  exact (hf3.block k (Nat.lt_of_lt_of_le hk hf2.size) (fun hh=>hh.elim hn (fun e=>by omega))).trans (hf2.block k hk hn)
 exact hm
end Go.Proofs.YtdfobfjpkjddpaaGreat
namespace Go.Proofs.YtdfobfjpkjddpaaGreat
open Go.RowKit Go.Own Go.Quo Go.Wire
theorem JS.cut {w:World}{Z:Nat→Prop}{p j:Nat}{recs:List (Int × List Int)}{dur:Int}{off:Bool}(h:JS w Z p j recs dur off):JS w (fun k=>Z k∧k<w.heap.size) p j recs dur off:=by
 obtain ⟨A,c,Ar,cr,As,cs,rs,h1,h2⟩:=h
 exact ⟨A,c,Ar,cr,As,cs,rs,⟨h1.fb,h1.fo,h1.jb,h1.ro,h1.so,⟨h1.zp,h1.fb.lt⟩,⟨h1.zj,h1.jb.lt⟩,fun g hg=>⟨h1.zf g hg,own_lt h1.fo hg⟩,fun g hg=>⟨h1.zr g hg,own_lt h1.ro hg⟩,fun g hg=>⟨h1.zs g hg,own_lt h1.so hg⟩,fun r hr=>((h1.bd r hr).old (by omega)).more (fun k hk=>⟨⟨hk.1.1,hk.2⟩,hk.1.2⟩)⟩,h2⟩
structure VS (w:World) (Z:Nat→Prop) (p j v:Nat) (recs:List (Int × List Int)) (term voted:Int):Prop where
 b:Blk w v 122 #[.pointer (some ⟨j,0,none⟩),.int .i64 term,.int .i64 voted]
 nz:¬ Z v
 js:JS w Z p j recs (encJ initS recs).length false
 bd:∀ k,Z k→k<w.heap.size
theorem VS.fr {w w':World}{Z S:Nat→Prop}{p j v:Nat}{recs:List (Int × List Int)}{term voted:Int}(h:VS w Z p j v recs term voted)(hf:Fr S w w')(hS:∀ g,(Z g∨g=v)→¬ S g):VS w' Z p j v recs term voted:=
 ⟨h.b.fr hf (hS _ (.inr rfl)),h.nz,h.js.fr hf (fun g hg=>hS g (.inl hg)),fun k hk=>Nat.lt_of_lt_of_le (h.bd k hk) hf.size⟩
def validT (t:Int):Bool:=decide (1≤t) && decide (t≤1099511627776)
def validN (n:Int):Bool:=decide (0≤n) && decide (n<9)
theorem validTerm_any (t:Int)(w:World)(q:Bool)(hq:validT t=q):Calls Tryz.prog 94 #[.int .i64 t] w fun e w'=>e=.returned (.bool q)∧w=w':=by
 subst hq
 unfold validT
 by_cases h1:1≤t
 ·go_enter Tryz.func94,Tryz.ntmps94
  go_wp2
  go_ret
  exact ⟨by simp[h1],rfl⟩
 ·go_enter Tryz.func94,Tryz.ntmps94
  go_wp2
  go_ret
  exact ⟨by simp;omega,rfl⟩
theorem validNode_any (t:Int)(w:World)(q:Bool)(hq:validN t=q):Calls Tryz.prog 95 #[.int .i64 t] w fun e w'=>e=.returned (.bool q)∧w=w':=by
 subst hq
 unfold validN
 by_cases h1:0≤t
 ·go_enter Tryz.func95,Tryz.ntmps95
  go_wp2
  go_ret
  exact ⟨by simp[h1],rfl⟩
 ·go_enter Tryz.func95,Tryz.ntmps95
  go_wp2
  go_ret
  exact ⟨by simp;omega,rfl⟩
def VPost (Z:Nat→Prop)(p j v:Nat)(recs:List (Int × List Int))(term voted er:Int)(w:World)(e:Ending)(w':World):Prop:=
 e=.returned (.int .i64 er)∧∃ Z':Nat→Prop,VS w' Z' p j v recs term voted∧(∀ k,Z' k→Z k∨w.heap.size≤k)∧Fr (fun k=>Z k∨k=v) w w'
theorem advance_ok (w:World)(Z:Nat→Prop)(p j v:Nat)(recs:List (Int × List Int))(term voted t:Int)(h:VS w Z p j v recs term voted)(ht:validT t=true)(hs:¬ t≤term)(hfit:(encJ initS (recs ++ [(84,za t)])).length≤16777216)(hrl:recs.length≤1000000) :
 Calls Tryz.prog 130 #[.pointer (some ⟨v,0,none⟩),.int .i64 t] w (VPost Z p j v (recs ++ [(84,za t)]) t (-1) 0 w):=by
 have HV:=ħ (validTerm_any t w true ht)
 have htr:1≤t∧t≤1099511627776:=by unfold validT at ht;simpa using ht
 obtain ⟨q0,q1,q2⟩:=h.b.facts
 have f1:Fr (fun _=>False) w (w.alloc (.cells #[.slice none 0 0] 160)):=(Fr.refl _ _).alloc _
 have h1:=h.fr f1 (fun _ _=>id)
 have w1:=WrP.new w
 have hel:=encI_len (n:=t) (by omega) (by omega)
 have hby:Bytes (za t):=encU_bytes _
 have HI:=ħ fun W' (x:WrP W' w.heap.size [])=>int_any w.heap.size t [] W' x (by omega) (by omega) (by simp)
 have HEn:=ħ fun W' (x:WrP W' w.heap.size (za t))=>encoded_cap w.heap.size _ W' x (by omega)
 have HSt:=ħ fun (W':World) (A0:Option Addr) (c0:Nat) (x:VS W' Z p j v recs term voted) (y:Reads W' (fun k=>¬ Z k) 1 A0 (za t).length (bys (za t)))=>store_any W' Z p j v recs _ 84 term voted A0 c0 (za t) x.b x.nz x.js (by omega) (by omega) hby (by omega) y hfit hrl
 have HbZ:=ħ h.bd
 have hvl:=h.b.lt
 clear ht hby hfit h
 generalize za t=en at *
 go_enter Tryz.func130,Tryz.ntmps130
 go_wp2_with (go_at_call 94;((with_reducible refine HV.out.mono ?_);rintro e w1 ⟨rfl,rfl⟩))
 generalize w.alloc (.cells #[.slice none 0 0] 160)=W1 at *
 refine (HI.out W1 w1).mono ?_
 rintro e w2 ⟨rfl,hw2,hB2⟩
 rw[List.nil_append] at hw2
 have hsw:=f1.size
 have h2:=h1.fr (S:=fun k=>w.heap.size≤k) ⟨hB2.os,hB2.tape,hB2.output,hB2.size,fun k _ hn=>hB2.block k (by omega)⟩ (fun g hg=>by
  rcases hg with hg | hg
  ·have:=HbZ.out g hg;omega
  ·omega)
 have hs2:=hB2.size
 go_wp2_with fail
 refine (HEn.out w2 hw2).mono ?_
 rintro e w3 ⟨A3,c3,rfl,r3,hB3,hc3⟩
 have h3:=h2.fr (Fr.of_below (S:=fun _=>False) hB3) (fun _ _=>id)
 have hs3:=hB3.size
 have HS3:=ħ (HSt.out w3 A3 c3 h3 (r3.more (fun k hk hz=>by have:=HbZ.out k hz;omega)))
 go_wp2_with fail
 refine HS3.out.mono ?_
 rintro e w4 ⟨rfl,hj4,hf4⟩
 have hb4:=h3.b.fr hf4 h3.nz
 have hs4:=hf4.size
 obtain ⟨x0,x1,x2⟩:=hb4.facts
 go_wp2_with fail
 go_ret
 have f5:Fr (fun k=>k=v) w4 ((w4.setCell ⟨v,1,none⟩ (.int .i64 t)).setCell ⟨v,2,none⟩ (.int .i64 (-1))):=((Fr.refl (fun k=>k=v) _).setCell (.inl rfl) _).setCell (.inl rfl) _
 have hnz:∀ g,((Z g∨w3.heap.size≤g)∧g<w4.heap.size)→g≠v:=by
  rintro g ⟨hg | hg,_⟩ e
  ·exact h3.nz (e ▸ hg)
  ·omega
 have hj5:=(hj4.cut).fr f5 hnz
 refine ⟨rfl,_,⟨by simpa using (hb4.set_ 1 (.int .i64 t)).set_ 2 (.int .i64 (-1)),fun hh=>hnz v hh rfl,hj5,fun k hk=>by simpa using hk.2⟩,fun k hk=>hk.1.elim .inl (fun e=>.inr (by omega)),?_⟩
 refine ⟨hf4.os.trans (hB3.os.trans (hB2.os.trans f1.os)),hf4.tape.trans (hB3.tape.trans (hB2.tape.trans f1.tape)),hf4.output.trans (hB3.output.trans (hB2.output.trans f1.output)),by simp;omega,fun k hk hn=>?_⟩
 have e1:=f1.block k hk id
 have e2:=hB2.block k hk
 have e3:=hB3.block k (by omega)
 have e4:=hf4.block k (by omega) (fun hz=>hn (.inl hz))
 have e5:=f5.block k (by omega) (fun hz=>hn (.inr hz))
 exact e5.trans (e4.trans (e3.trans (e2.trans e1)))
end Go.Proofs.YtdfobfjpkjddpaaGreat
