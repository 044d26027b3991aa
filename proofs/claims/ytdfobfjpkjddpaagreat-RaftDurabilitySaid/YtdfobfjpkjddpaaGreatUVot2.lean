import Derived.Test.YtdfobfjpkjddpaaGreatUG8
set_option linter.unusedVariables false
set_option linter.unusedSimpArgs false
set_option maxRecDepth 10000
set_option maxHeartbeats 2000000
namespace Go.Proofs.YtdfobfjpkjddpaaGreat
open Go.RowKit Go.Own Go.Quo Go.Wire
theorem grant_bad (w:World)(Z:Nat→Prop)(p j v:Nat)(recs:List (Int × List Int))(term voted t n:Int)(h:VS w Z p j v recs term voted)(ht:validT t=false∨validN n=false) :
 Calls Tryz.prog 78 #[.pointer (some ⟨v,0,none⟩),.int .i64 t,.int .i64 n] w (VPost Z p j v recs term voted 1 w):=by
 cases hv:validT t with
 | false=>
  have HV:=ħ (validTerm_any t w false hv)
  clear ht hv
  go_enter Tryz.func78,Tryz.ntmps78
  go_wp2_with (go_at_call 94;((with_reducible refine HV.out.mono ?_);rintro e w1 ⟨rfl,rfl⟩))
  go_ret
  exact ⟨rfl,Z,h,fun k hk=>.inl hk,Fr.refl _ _⟩
 | true=>
  have hn:validN n=false:=by rcases ht with e | e;· rw[e] at hv;cases hv
                             ·exact e
  have HV:=ħ (validTerm_any t w true hv)
  have HN:=ħ (validNode_any n w false hn)
  clear ht hv hn
  go_enter Tryz.func78,Tryz.ntmps78
  go_wp2_with (first
   | (go_at_call 94;((with_reducible refine HV.out.mono ?_);rintro e w1 ⟨rfl,rfl⟩))
   | (go_at_call 95;((with_reducible refine HN.out.mono ?_);rintro e w1 ⟨rfl,rfl⟩)))
  go_ret
  exact ⟨rfl,Z,h,fun k hk=>.inl hk,Fr.refl _ _⟩
theorem grant_again (w:World)(Z:Nat→Prop)(p j v:Nat)(recs:List (Int × List Int))(voted t n:Int)(h:VS w Z p j v recs t voted)(ht:validT t=true)(hn:validN n=true)(hv:0≤voted)(er:Int)(he:er=if voted=n then 0 else 10) :
 Calls Tryz.prog 78 #[.pointer (some ⟨v,0,none⟩),.int .i64 t,.int .i64 n] w (VPost Z p j v recs t voted er w):=by
 have HV:=ħ (validTerm_any t w true ht)
 have HN:=ħ (validNode_any n w true hn)
 obtain ⟨q0,q1,q2⟩:=h.b.facts
 clear ht hn
 by_cases hvn:voted=n
 ·rw[if_pos hvn] at he
  subst hvn he
  have hb:(voted != voted)=false:=by simp
  go_enter Tryz.func78,Tryz.ntmps78
  go_wp2_with (first
   | (go_at_call 94;((with_reducible refine HV.out.mono ?_);rintro e w1 ⟨rfl,rfl⟩))
   | (go_at_call 95;((with_reducible refine HN.out.mono ?_);rintro e w1 ⟨rfl,rfl⟩)))
  go_ret
  exact ⟨rfl,Z,h,fun k hk=>.inl hk,Fr.refl _ _⟩
 ·rw[if_neg hvn] at he
  subst he
  have hb:(voted != n)=true:=by simpa using hvn
  have hb2:(voted == n)=false:=by simpa using hvn
  go_enter Tryz.func78,Tryz.ntmps78
  go_wp2_with (first
   | (go_at_call 94;((with_reducible refine HV.out.mono ?_);rintro e w1 ⟨rfl,rfl⟩))
   | (go_at_call 95;((with_reducible refine HN.out.mono ?_);rintro e w1 ⟨rfl,rfl⟩)))
  go_ret
  exact ⟨rfl,Z,h,fun k hk=>.inl hk,Fr.refl _ _⟩
theorem grant_ok (w:World)(Z:Nat→Prop)(p j v:Nat)(recs:List (Int × List Int))(term voted t n:Int)(h:VS w Z p j v recs term voted)(ht:validT t=true)(hn:validN n=true)(hs:¬ t<term)(hnv:¬ (t=term∧0≤voted))(hfit:(encJ initS (recs ++ [(86,za t ++ za n)])).length≤16777216)(hrl:recs.length≤1000000) :
 Calls Tryz.prog 78 #[.pointer (some ⟨v,0,none⟩),.int .i64 t,.int .i64 n] w (VPost Z p j v (recs ++ [(86,za t ++ za n)]) t n 0 w):=by
 have HV:=ħ (validTerm_any t w true ht)
 have HN:=ħ (validNode_any n w true hn)
 have htr:1≤t∧t≤1099511627776:=by unfold validT at ht;simpa using ht
 have hnr:0≤n∧n<9:=by unfold validN at hn;simpa using hn
 obtain ⟨q0,q1,q2⟩:=h.b.facts
 have f1:Fr (fun _=>False) w (w.alloc (.cells #[.slice none 0 0] 160)):=(Fr.refl _ _).alloc _
 have h1:=h.fr f1 (fun _ _=>id)
 have w1:=WrP.new w
 have hel:=encI_len (n:=t) (by omega) (by omega)
 have hel2:=encI_len (n:=n) (by omega) (by omega)
 have hby:Bytes (za t ++ za n):=fun x hx=>(List.mem_append.1 hx).elim (fun e=>encU_bytes _ x e) (fun e=>encU_bytes _ x e)
 have HI:=ħ fun W' (x:WrP W' w.heap.size [])=>int_any w.heap.size t [] W' x (by omega) (by omega) (by simp)
 have HI2:=ħ fun W' (x:WrP W' w.heap.size (za t))=>int_any w.heap.size n (za t) W' x (by omega) (by omega) (by omega)
 have hel3:(za t ++ za n).length≤20:=by rw[List.length_append];omega
 have HEn:=ħ fun W' (x:WrP W' w.heap.size (za t ++ za n))=>encoded_cap w.heap.size _ W' x (by omega)
 have HSt:=ħ fun (W':World) (A0:Option Addr) (c0:Nat) (x:VS W' Z p j v recs term voted) (y:Reads W' (fun k=>¬ Z k) 1 A0 (za t ++ za n).length (bys (za t ++ za n)))=>store_any W' Z p j v recs _ 86 term voted A0 c0 (za t ++ za n) x.b x.nz x.js (by omega) (by omega) hby (by omega) y hfit hrl
 have HbZ:=ħ h.bd
 have hvl:=h.b.lt
 clear ht hn hby hfit h
 generalize za t ++ za n=en at *
 generalize za t=e1 at *
 have hcs:(t == term)=false∨((t == term)=true∧¬ (0:Int)≤voted):=by
  by_cases e:t=term
  ·right;exact ⟨by simpa using e,fun hv=>hnv ⟨e,hv⟩⟩
  ·left;simpa using e
 clear hnv
 rcases hcs with hc1 | ⟨hc1,hc2⟩
 all_goals
  go_enter Tryz.func78,Tryz.ntmps78
  go_wp2_with (first
   | (go_at_call 94;((with_reducible refine HV.out.mono ?_);rintro e w1 ⟨rfl,rfl⟩))
   | (go_at_call 95;((with_reducible refine HN.out.mono ?_);rintro e w1 ⟨rfl,rfl⟩)))
  generalize w.alloc (.cells #[.slice none 0 0] 160)=W1 at *
  refine (HI.out W1 w1).mono ?_
  rintro e w2a ⟨rfl,hw2a,hB2a⟩
  rw[List.nil_append] at hw2a
  go_wp2_with fail
  refine (HI2.out w2a hw2a).mono ?_
  rintro e w2 ⟨rfl,hw2,hB2b⟩
  have hB2:=hB2a.trans hB2b
  have hsw:=f1.size
  have h2:=h1.fr (S:=fun k=>w.heap.size≤k) ⟨hB2.os,hB2.tape,hB2.output,hB2.size,fun k _ hn=>hB2.block k (by omega)⟩ (fun g hg=>by
   rcases hg with hg | hg
   ·have:=HbZ.out g hg;omega
   ·omega)
  have hs2:=hB2.size
  go_wp2_with fail
  refine (HEn.out w2 hw2).mono ?_
  rintro e w3 ⟨A3,c3,rfl,r3,hB3,hc3⟩
  have h3:=h2.fr (Fr.of_below (S:=fun _=>False) hB3) (fun _ _=>id)
  have hs3:=hB3.size
  have HS3:=ħ (HSt.out w3 A3 c3 h3 (r3.more (fun k hk hz=>by have:=HbZ.out k hz;omega)))
  go_wp2_with fail
  refine HS3.out.mono ?_
  rintro e w4 ⟨rfl,hj4,hf4⟩
  have hb4:=h3.b.fr hf4 h3.nz
  have hs4:=hf4.size
  obtain ⟨x0,x1,x2⟩:=hb4.facts
  go_wp2_with fail
  go_ret
  have f5:Fr (fun k=>k=v) w4 ((w4.setCell ⟨v,1,none⟩ (.int .i64 t)).setCell ⟨v,2,none⟩ (.int .i64 n)):=((Fr.refl (fun k=>k=v) _).setCell (.inl rfl) _).setCell (.inl rfl) _
  have hnz:∀ g,((Z g∨w3.heap.size≤g)∧g<w4.heap.size)→g≠v:=by
   rintro g ⟨hg | hg,_⟩ e
   ·exact h3.nz (e ▸ hg)
   ·omega
  have hj5:=(hj4.cut).fr f5 hnz
  refine ⟨rfl,_,⟨by simpa using (hb4.set_ 1 (.int .i64 t)).set_ 2 (.int .i64 n),fun hh=>hnz v hh rfl,hj5,fun k hk=>by simpa using hk.2⟩,fun k hk=>hk.1.elim .inl (fun e=>.inr (by omega)),?_⟩
  refine ⟨hf4.os.trans (hB3.os.trans (hB2.os.trans f1.os)),hf4.tape.trans (hB3.tape.trans (hB2.tape.trans f1.tape)),hf4.output.trans (hB3.output.trans (hB2.output.trans f1.output)),by simp;omega,fun k hk hn=>?_⟩
  have e1:=f1.block k hk id
  have e2:=hB2.block k hk
  have e3:=hB3.block k (by omega)
  have e4:=hf4.block k (by omega) (fun hz=>hn (.inl hz))
  have e5:=f5.block k (by omega) (fun hz=>hn (.inr hz))
  exact e5.trans (e4.trans (e3.trans (e2.trans e1)))
end Go.Proofs.YtdfobfjpkjddpaaGreat
