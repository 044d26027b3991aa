import Derived.Test.YtdhcjhfgibmhfaaGreatDoorJG16
import Derived.Test.YtdhcjhfgibmhfaaGreatDoorJG10
import Derived.Test.YtdhcjhfgibmhfaaGreatDoorJG3
import Derived.Test.YtdhcjhfgibmhfaaGreatDoorJG4
import Derived.Test.YtdhcjhfgibmhfaaGreatDoorJG6
import Derived.Test.YtdhcjhfgibmhfaaGreatDoorJG11
import Derived.Deep.RegionHeld
set_option linter.unusedVariables false
set_option linter.unusedSimpArgs false
set_option maxRecDepth 10000
set_option maxHeartbeats 8000000
namespace Go.Proofs.YtdhcjhfgibmhfaaGreatDoor.Wr
open Go.RowKit Go.Own Go.Quo Go.Wire Go.Inc
theorem wbool_any (p:Nat)(b:Bool)(out:List Int)(w:World)(hw:WrP w p out)(hl:out.length≤1000000000) :
 Calls Tryz.prog 79 #[.pointer (some ⟨p,0,none⟩),.bool b] w (fun e w'=>e=.returned (.tuple #[])∧WrP w' p (out ++ encB b)∧Below p w w'):=by
 obtain ⟨A,c,hk,hown⟩:=hw
 obtain ⟨q0,q1,q2⟩:=hk.facts
 cases b with
 | true=>
  go_enter Tryz.func79,Tryz.ntmps79
  go_wp2_with (at_builtin;refine ze _ rfl _ _ _ rfl (p+1) 5 _ 1 1 Tryz.underlying99 info5 rfl (by omega) (.slice A out.length c) out.length (bys out) rfl (hown.alloc _) _ (some ⟨w.heap.size,0,none⟩) 1 1 [.int .u8 1] rfl (Reads.newS _ [.int .u8 1] 5 (0,0) 1 1 rfl _ rfl) (by simp[Value.oneCell']) (by simp only[maxLen];omega) (by omega) (by simp;omega) ?_;intro A4 c4 w4 Ri RG TT;have hk4:=(hk.alloc _).grown RG (by intro e;have:=(hown.lt p e.symm).1;omega);have r0:=hk4.facts)
  refine bodyPost_end (v:=.tuple #[]) (by simp[results,Tryz.results79,go_sem]) rfl ⟨rfl,?_,?_⟩
  ·refine ⟨A4,c4,?_,?_⟩
   ·have:=hk4.set_ 0 (.slice A4 (out.length+1) c4)
    simpa [encB] using this
   ·have:=Xy Ri (p:=⟨p,0,none⟩) (by simp) (.slice A4 (out.length+1) c4)
    simpa [encB] using this
  ·exact (((Below.refl p w).alloc (Nat.le_of_lt q0) _).grown RG (by simp;omega) (fun g hg=>by have:=(hown.lt g hg).1;omega)).setCell (by simp) _
 | false=>
  go_enter Tryz.func79,Tryz.ntmps79
  go_wp2_with (at_builtin;refine ze _ rfl _ _ _ rfl (p+1) 5 _ 1 1 Tryz.underlying99 info5 rfl (by omega) (.slice A out.length c) out.length (bys out) rfl (hown.alloc _) _ (some ⟨w.heap.size,0,none⟩) 1 1 [.int .u8 0] rfl (Reads.newS _ [.int .u8 0] 5 (0,0) 1 1 rfl _ rfl) (by simp[Value.oneCell']) (by simp only[maxLen];omega) (by omega) (by simp;omega) ?_;intro A4 c4 w4 Ri RG TT;have hk4:=(hk.alloc _).grown RG (by intro e;have:=(hown.lt p e.symm).1;omega);have r0:=hk4.facts)
  refine bodyPost_end (v:=.tuple #[]) (by simp[results,Tryz.results79,go_sem]) rfl ⟨rfl,?_,?_⟩
  ·refine ⟨A4,c4,?_,?_⟩
   ·have:=hk4.set_ 0 (.slice A4 (out.length+1) c4)
    simpa [encB] using this
   ·have:=Xy Ri (p:=⟨p,0,none⟩) (by simp) (.slice A4 (out.length+1) c4)
    simpa [encB] using this
  ·exact (((Below.refl p w).alloc (Nat.le_of_lt q0) _).grown RG (by simp;omega) (fun g hg=>by have:=(hown.lt g hg).1;omega)).setCell (by simp) _
theorem wstr_any (p:Nat)(s:ByteArray)(out:List Int)(w:World)(hw:WrP w p out)(hl:out.length≤900000000)(hs:s.size≤1000000) :
 Calls Tryz.prog 77 #[.pointer (some ⟨p,0,none⟩),.string s] w (fun e w'=>e=.returned (.tuple #[])∧WrP w' p (out ++ z0d s)∧Below p w w'):=by
 have HI:=ħ (int_any p (s.size:Int) out w hw (by omega) (by omega) (by omega))
 have hlen:=Sv (n:=(s.size:Int)) (by omega) (by omega)
 obtain ⟨o,ho⟩:∃ o,o=out ++ z01 (s.size:Int):=⟨_,rfl⟩
 have hol:o.length≤900000010:=by rw[ho,List.length_append];omega
 have HO:=ħ ho
 rw[←ho] at HI
 clear ho hlen hw
 go_enter Tryz.func77,Tryz.ntmps77
 go_wp2_with (first
  | (go_at_call 76;((with_reducible refine HI.out.mono ?_);rintro e w2 ⟨rfl,⟨A,c,hk,hown⟩,hb⟩;have q0:=hk.facts))
  | (at_builtin;refine KC _ rfl _ _ _ _ rfl (p+1) 5 Tryz.underlying99 Tryz.underlying9 info5 (.slice A o.length c) o.length (bys o) rfl hown s rfl (by simp only[maxLen];omega) (by omega) (by omega) ?_;intro A4 c4 w4 Ri RG;have hk4:=hk.grown RG (by intro e;have:=(hown.lt p e.symm).1;omega);have r0:=hk4.facts))
 refine bodyPost_end (v:=.tuple #[]) (by simp[results,Tryz.results77,go_sem]) rfl ⟨rfl,?_,?_⟩
 ·have e1:(out ++ z0d s).length=o.length+s.size:=by
   rw[HO.out]
   unfold z0d
   rw[←List.append_assoc,List.length_append (bs:=Rh s),Ro]
  have e2:bys o ++ Lib.strCells s=bys (out ++ z0d s):=by
   rw[RP,HO.out]
   unfold z0d
   rw[←List.append_assoc]
   simp[bys]
  rw[←e1,e2] at Ri
  refine ⟨A4,c4,?_,?_⟩
  ·have:=hk4.set_ 0 (.slice A4 (out ++ z0d s).length c4)
   simp only[←e1]
   simpa using this
  ·simp only[←e1]
   exact Xy Ri (p:=⟨p,0,none⟩) (by simp) _
 ·exact (hb.grown RG (by omega) (fun g hg=>by have:=(hown.lt g hg).1;omega)).setCell (by simp) _
end Go.Proofs.YtdhcjhfgibmhfaaGreatDoor.Wr
namespace Go.Proofs.YtdhcjhfgibmhfaaGreatDoor.Wr
open Go.RowKit Go.Own Go.Quo Go.Inc Go.Wire
structure KL (w:World) (p:Nat) (rs:List (Nat × TypeId × Array Value)):Prop where
 al:∀ x∈rs,zb w x.1 x.2.1 x.2.2∧x.2.1≠5∧x.1≠p
theorem KL.wr2 {w w2:World}{p n c:Nat}{A:Option Addr}{xs:List Value}{rs:List (Nat × TypeId × Array Value)}(h:KL w p rs)(hown:w.ownsRow (p+1) 5 1 (.slice A n c) n xs)(hg:w.grownBy w2 (Value.slice A n c).ownBlock):KL w2 p rs:=
 ⟨fun x hx=>by
  obtain ⟨h1,h2,h3⟩:=h.al x hx
  exact ⟨h1.grown hg (fun e=>zR hown h1 h2 _ e.symm rfl),h2,h3⟩⟩
theorem KL.wr {w w2:World}{p n c:Nat}{A:Option Addr}{xs:List Value}{rs:List (Nat × TypeId × Array Value)}{o:Obj}(h:KL w p rs)(hown:w.ownsRow (p+1) 5 1 (.slice A n c) n xs)(hg:(w.alloc o).grownBy w2 (Value.slice A n c).ownBlock):KL w2 p rs:=
 ⟨fun x hx=>by
  obtain ⟨h1,h2,h3⟩:=h.al x hx
  exact ⟨(h1.alloc _).grown hg (fun e=>zR hown h1 h2 _ e.symm rfl),h2,h3⟩⟩
theorem KL.far_ {w:World}{p:Nat}{rs:List (Nat × TypeId × Array Value)}(h:KL w p rs)(v:Value):KL (w.setCell ⟨p,0,none⟩ v) p rs:=
 ⟨fun x hx=>by
  obtain ⟨h1,h2,h3⟩:=h.al x hx
  exact ⟨h1.far (p:=⟨p,0,none⟩) h3 v,h2,h3⟩⟩
theorem Cx (p:Nat)(n:Int)(out:List Int)(w:World)(hw:WrP w p out)(rs:List (Nat × TypeId × Array Value))(hr:KL w p rs)(h0:-9223372036854775808≤n)(h1:n<9223372036854775808)(hl:out.length≤1000000000) :
 Calls Tryz.prog 76 #[.pointer (some ⟨p,0,none⟩),ι n] w (fun e w'=>e=.returned (.tuple #[])∧WrP w' p (out ++ z01 n)∧Below p w w'∧KL w' p rs):=by
 have hz:=z0S h0 h1
 have hlen:=Sv h0 h1
 have hzl:=TG h0 h1
 have HE:=ħ (show z01 n=Rv (zig n) from rfl)
 generalize z01 n=en at *
 go_enter Tryz.func76,Tryz.ntmps76
 go_wp2_with fail
 generalize zig n=z at *
 clear hz
 go_loopw [4] (fun vu wr=>∃ (u:Nat) (o:List Int),vu=.int .u64 u∧u<18446744073709551616∧WrP wr p o∧o ++ Rv u=out ++ en∧Below p w wr∧KL wr p rs) (fun u _=>(intOf u).toNat)
 case atStart=>exact ⟨z,out,rfl,hzl,hw,by rw[HE.out],Below.refl _ _,hr⟩
 case round=>
  obtain ⟨u,o,rfl,hu,hwr,ho,hb,hr⟩:=hrel
  have HO:=ħ ho
  have hol:o.length+(Rv u).length≤out.length+en.length:=by rw[←List.length_append,←List.length_append,ho];exact Nat.le_refl _
  clear ho
  obtain ⟨A,c,hk,hown⟩:=hwr
  obtain ⟨q0,q1,q2⟩:=hk.facts
  by_cases h:u<128
  ·have h':¬ (128:Int)≤u:=by omega
   have LH:IntKind.u8.wrap (u:Int)=u:=by rw[IntKind.wrap_u8'];omega
   go_wp2_with (at_builtin;refine ze _ rfl _ _ _ rfl (p+1) 5 _ 1 1 Tryz.underlying99 info5 rfl (by omega) (.slice A o.length c) o.length (bys o) rfl (hown.alloc _) _ (some ⟨wr.heap.size,0,none⟩) 1 1 [.int .u8 u] rfl (Reads.newS _ [.int .u8 u] 5 (0,0) 1 1 rfl _ rfl) (by simp[Value.oneCell']) (by simp only[maxLen];omega) (by omega) (by simp;omega) ?_;intro A4 c4 w4 Ri RG TT;have hr4:=hr.wr hown RG;have hk4:=(hk.alloc _).grown RG (by intro e;have:=(hown.lt p e.symm).1;omega);have r0:=hk4.facts)
   refine bodyPost_end (v:=.tuple #[]) (by simp[results,Tryz.results76,go_sem]) rfl ⟨rfl,?_,?_,hr4.far_ _⟩
   ·rw[←HO.out,Rz h]
    refine ⟨A4,c4,?_,?_⟩
    ·have:=hk4.set_ 0 (.slice A4 (o.length+1) c4)
     simpa using this
    ·have:=Xy Ri (p:=⟨p,0,none⟩) (by simp) (.slice A4 (o.length+1) c4)
     simpa using this
   ·exact ((hb.alloc (Nat.le_of_lt (Nat.lt_of_lt_of_le q0 (Nat.le_refl _))) _).grown RG (by simp;omega) (fun g hg=>by have:=(hown.lt g hg).1;omega)).setCell (by simp) _
  ·have h':(128:Int)≤u:=by omega
   obtain ⟨lo,hlo⟩:∃ lo:Int,lo=((u % 128+128:Nat):Int):=⟨_,rfl⟩
   have LH:bits .or .u8 ((u:Int) % 256) 128=lo:=by rw[hlo,←z18 u,IntKind.wrap_u8']
   have HLo:=ħ hlo;clear hlo
   go_wp2_with (at_builtin;refine ze _ rfl _ _ _ rfl (p+1) 5 _ 1 1 Tryz.underlying99 info5 rfl (by omega) (.slice A o.length c) o.length (bys o) rfl (hown.alloc _) _ (some ⟨wr.heap.size,0,none⟩) 1 1 [.int .u8 lo] rfl (Reads.newS _ [.int .u8 lo] 5 (0,0) 1 1 rfl _ rfl) (by simp[Value.oneCell']) (by simp only[maxLen];omega) (by omega) (by simp;omega) ?_;intro A4 c4 w4 Ri RG TT;have hr4:=hr.wr hown RG;have hk4:=(hk.alloc _).grown RG (by intro e;have:=(hown.lt p e.symm).1;omega);have r0:=hk4.facts)
   have hsh:(u:Int) / 128=((u / 128:Nat):Int):=by omega
   refine ⟨⟨u / 128,o ++ [lo],congrArg _ hsh,by omega,?_,?_,?_,hr4.far_ _⟩,by simp[intOf];omega⟩
   ·refine ⟨A4,c4,?_,?_⟩
    ·have:=hk4.set_ 0 (.slice A4 (o.length+1) c4)
     simpa using this
    ·have:=Xy Ri (p:=⟨p,0,none⟩) (by simp) (.slice A4 (o.length+1) c4)
     simpa using this
   ·rw[←HO.out,R_ h,HLo.out,List.append_assoc];rfl
   ·exact ((hb.alloc (Nat.le_of_lt (Nat.lt_of_lt_of_le q0 (Nat.le_refl _))) _).grown RG (by simp;omega) (fun g hg=>by have:=(hown.lt g hg).1;omega)).setCell (by simp) _
theorem z0Y (p:Nat)(A:Option Addr)(c:Nat)(l out:List Int)(w:World)(hw:WrP w p out)(rs:List (Nat × TypeId × Array Value))(hr:KL w p rs)(hri:RI w (· < p) A l)(hx:∀ x∈l,-9223372036854775808≤x∧x<9223372036854775808)(hm:l.length≤1000)(hl:out.length≤900000000) :
 Calls Tryz.prog 78 #[.pointer (some ⟨p,0,none⟩),.slice A l.length c] w (fun e w'=>e=.returned (.tuple #[])∧WrP w' p (out ++ encIs l)∧Below p w w'∧KL w' p rs):=by
 have pA:=hri.plain (by omega)
 have HL:=ħ (Cx p (l.length:Int) out w hw rs hr (by omega) (by omega) (by omega))
 have HX:=ħ hx
 clear hx
 have hle:(z01 (l.length:Int)).length≤10:=Sv (by omega) (by omega)
 have HE:=ħ (show encIs l=z01 (l.length:Int) ++ l.flatMap z01 from rfl)
 generalize z01 (l.length:Int)=el at *
 go_enter Tryz.func78,Tryz.ntmps78
 go_wp2_with (go_at_call 76;((with_reducible refine HL.out.mono ?_);rintro e w1 ⟨rfl,hw1,hb1,hr1⟩))
 go_loopw [12] (fun vi wr=>∃ k:Nat,k≤l.length∧vi=ι k∧WrP wr p (out ++ el ++ (l.take k).flatMap z01)∧Below p w wr∧KL wr p rs) (fun i _=>l.length - (intOf i).toNat)
 case atStart=>exact ⟨0,Nat.zero_le _,rfl,by simpa using hw1,hb1,hr1⟩
 case round=>
  obtain ⟨k,hk,rfl,hwr,hb,hr⟩:=hrel
  have hrr:=hri.below hb (fun _ h=>h)
  by_cases hlt:k<l.length
  ·have hlt':(k:Int)<l.length:=by omega
   have hix:=fun W=>JI pA c k hlt W
   have hcell:=Wr.RI.at_ hrr hlt
   have hg:=HX.out (gd l k) (by rw[qd hlt];exact List.getElem_mem hlt)
   have hfl:((l.take k).flatMap z01).length≤10 * l.length:=by
    have:=flat_len (l.take k) (fun x hx=>HX.out x (List.mem_of_mem_take hx))
    have h2:(l.take k).length≤l.length:=by simp;omega
    omega
   have HI:=ħ (Cx p (gd l k) _ wr hwr rs hr hg.1 hg.2 (by simp only[List.length_append];omega))
   rw[List.append_assoc,←FN l k hlt] at HI
   go_wp2_with (go_at_call 76;((with_reducible refine HI.out.mono ?_);rintro e w2 ⟨rfl,hw2,hb2,hr2⟩))
   exact ⟨⟨k+1,by omega,by go_num,by simpa using hw2,hb.trans hb2,hr2⟩,by simp[intOf];omega⟩
  ·have hge:¬ ((k:Int)<l.length):=by omega
   have HK:Hid (l.take k=l):=List.take_of_length_le (by omega)
   go_wp2_with fail
   refine bodyPost_end (v:=.tuple #[]) (by simp[results,Tryz.results78,go_sem]) rfl ⟨rfl,?_,hb,hr⟩
   rw[HK.out] at hwr
   rw[HE.out]
   simpa using hwr
theorem z11 (p:Nat)(b:Bool)(out:List Int)(w:World)(hw:WrP w p out)(rs:List (Nat × TypeId × Array Value))(hr:KL w p rs)(hl:out.length≤1000000000) :
 Calls Tryz.prog 79 #[.pointer (some ⟨p,0,none⟩),.bool b] w (fun e w'=>e=.returned (.tuple #[])∧WrP w' p (out ++ encB b)∧Below p w w'∧KL w' p rs):=by
 obtain ⟨A,c,hk,hown⟩:=hw
 obtain ⟨q0,q1,q2⟩:=hk.facts
 cases b with
 | true=>
  go_enter Tryz.func79,Tryz.ntmps79
  go_wp2_with (at_builtin;refine ze _ rfl _ _ _ rfl (p+1) 5 _ 1 1 Tryz.underlying99 info5 rfl (by omega) (.slice A out.length c) out.length (bys out) rfl (hown.alloc _) _ (some ⟨w.heap.size,0,none⟩) 1 1 [.int .u8 1] rfl (Reads.newS _ [.int .u8 1] 5 (0,0) 1 1 rfl _ rfl) (by simp[Value.oneCell']) (by simp only[maxLen];omega) (by omega) (by simp;omega) ?_;intro A4 c4 w4 Ri RG TT;have hr4:=hr.wr hown RG;have hk4:=(hk.alloc _).grown RG (by intro e;have:=(hown.lt p e.symm).1;omega);have r0:=hk4.facts)
  refine bodyPost_end (v:=.tuple #[]) (by simp[results,Tryz.results79,go_sem]) rfl ⟨rfl,?_,?_,hr4.far_ _⟩
  ·refine ⟨A4,c4,?_,?_⟩
   ·have:=hk4.set_ 0 (.slice A4 (out.length+1) c4)
    simpa [encB] using this
   ·have:=Xy Ri (p:=⟨p,0,none⟩) (by simp) (.slice A4 (out.length+1) c4)
    simpa [encB] using this
  ·exact (((Below.refl p w).alloc (Nat.le_of_lt q0) _).grown RG (by simp;omega) (fun g hg=>by have:=(hown.lt g hg).1;omega)).setCell (by simp) _
 | false=>
  go_enter Tryz.func79,Tryz.ntmps79
  go_wp2_with (at_builtin;refine ze _ rfl _ _ _ rfl (p+1) 5 _ 1 1 Tryz.underlying99 info5 rfl (by omega) (.slice A out.length c) out.length (bys out) rfl (hown.alloc _) _ (some ⟨w.heap.size,0,none⟩) 1 1 [.int .u8 0] rfl (Reads.newS _ [.int .u8 0] 5 (0,0) 1 1 rfl _ rfl) (by simp[Value.oneCell']) (by simp only[maxLen];omega) (by omega) (by simp;omega) ?_;intro A4 c4 w4 Ri RG TT;have hr4:=hr.wr hown RG;have hk4:=(hk.alloc _).grown RG (by intro e;have:=(hown.lt p e.symm).1;omega);have r0:=hk4.facts)
  refine bodyPost_end (v:=.tuple #[]) (by simp[results,Tryz.results79,go_sem]) rfl ⟨rfl,?_,?_,hr4.far_ _⟩
  ·refine ⟨A4,c4,?_,?_⟩
   ·have:=hk4.set_ 0 (.slice A4 (out.length+1) c4)
    simpa [encB] using this
   ·have:=Xy Ri (p:=⟨p,0,none⟩) (by simp) (.slice A4 (out.length+1) c4)
    simpa [encB] using this
  ·exact (((Below.refl p w).alloc (Nat.le_of_lt q0) _).grown RG (by simp;omega) (fun g hg=>by have:=(hown.lt g hg).1;omega)).setCell (by simp) _
theorem z15 (p:Nat)(s:ByteArray)(out:List Int)(w:World)(hw:WrP w p out)(rs:List (Nat × TypeId × Array Value))(hr:KL w p rs)(hl:out.length≤900000000)(hs:s.size≤1000000) :
 Calls Tryz.prog 77 #[.pointer (some ⟨p,0,none⟩),.string s] w (fun e w'=>e=.returned (.tuple #[])∧WrP w' p (out ++ z0d s)∧Below p w w'∧KL w' p rs):=by
 have HI:=ħ (Cx p (s.size:Int) out w hw rs hr (by omega) (by omega) (by omega))
 have hlen:=Sv (n:=(s.size:Int)) (by omega) (by omega)
 obtain ⟨o,ho⟩:∃ o,o=out ++ z01 (s.size:Int):=⟨_,rfl⟩
 have hol:o.length≤900000010:=by rw[ho,List.length_append];omega
 have HO:=ħ ho
 rw[←ho] at HI
 clear ho hlen hw
 go_enter Tryz.func77,Tryz.ntmps77
 go_wp2_with (first
  | (go_at_call 76;((with_reducible refine HI.out.mono ?_);rintro e w2 ⟨rfl,⟨A,c,hk,hown⟩,hb,hr2⟩;have q0:=hk.facts))
  | (at_builtin;refine KC _ rfl _ _ _ _ rfl (p+1) 5 Tryz.underlying99 Tryz.underlying9 info5 (.slice A o.length c) o.length (bys o) rfl hown s rfl (by simp only[maxLen];omega) (by omega) (by omega) ?_;intro A4 c4 w4 Ri RG;have hr4:=hr2.wr2 hown RG;have hk4:=hk.grown RG (by intro e;have:=(hown.lt p e.symm).1;omega);have r0:=hk4.facts))
 refine bodyPost_end (v:=.tuple #[]) (by simp[results,Tryz.results77,go_sem]) rfl ⟨rfl,?_,?_,hr4.far_ _⟩
 ·have e1:(out ++ z0d s).length=o.length+s.size:=by
   rw[HO.out]
   unfold z0d
   rw[←List.append_assoc,List.length_append (bs:=Rh s),Ro]
  have e2:bys o ++ Lib.strCells s=bys (out ++ z0d s):=by
   rw[RP,HO.out]
   unfold z0d
   rw[←List.append_assoc]
   simp[bys]
  rw[←e1,e2] at Ri
  refine ⟨A4,c4,?_,?_⟩
  ·have:=hk4.set_ 0 (.slice A4 (out ++ z0d s).length c4)
   simp only[←e1]
   simpa using this
  ·simp only[←e1]
   exact Xy Ri (p:=⟨p,0,none⟩) (by simp) _
 ·exact (hb.grown RG (by omega) (fun g hg=>by have:=(hown.lt g hg).1;omega)).setCell (by simp) _
end Go.Proofs.YtdhcjhfgibmhfaaGreatDoor.Wr
namespace Go.Proofs.YtdhcjhfgibmhfaaGreatDoor.Wr
open Go.RowKit Go.Own Go.Quo Go.Wire
abbrev ivs (l:List Int):List Value:=l.map (Value.int .i64)
theorem gd_set {l:List Int}{k j:Nat}{v:Int}(hk:k<l.length):gd (l.set k v) j=if j=k then v else gd l j:=by
 unfold gd
 rw[List.getD_eq_getElem?_getD,List.getD_eq_getElem?_getD,List.getElem?_set]
 by_cases h:k=j
 ·subst h;rw[if_pos rfl,if_pos rfl,if_pos hk];rfl
 ·rw[if_neg h,if_neg (fun e=>h e.symm)]
theorem ivs_set (l:List Int)(k:Nat)(v:Int):(ivs l).toArray.setIfInBounds k (ι v)=(ivs (l.set k v)).toArray:=by
 simp[ivs,List.map_set]
theorem ivs_get {l:List Int}{k:Nat}(hk:k<l.length):(ivs l).toArray[k]?=some (ι (gd l k)):=by
 simp[ivs,qd hk,hk]
theorem gd_ext {a b:List Int}(hl:a.length=b.length)(h:∀ j,j<b.length→gd a j=gd b j):a=b:=by
 apply List.ext_getElem hl
 intro i h1 h2
 have:=h i h2
 rwa [qd h1,qd h2] at this
end Go.Proofs.YtdhcjhfgibmhfaaGreatDoor.Wr
namespace Go.Proofs.YtdhcjhfgibmhfaaGreatDoor
open Go.RowKit Go.Own Go.Quo Go.Inc Go.Wire
def ByR (l:List Int)(w:World)(e:Ending)(w':World):Prop:=∃ A c,e=.returned (.slice A l.length c)∧Reads w' (w.heap.size≤·) 1 A l.length (Wr.bys l)∧Below w.heap.size w w'
theorem Kb {l:List Int}(hm:l.length≤1000)(h:mZ l):(encIs l).length≤10+10 * l.length:=by
 have h1:=Sv (n:=(l.length:Int)) (by omega) (by omega)
 have h2:=Wr.flat_len l h
 unfold encIs
 rw[List.length_append];omega
theorem z0U {s:ByteArray}(h:s.size≤1000):(Inc.z0d s).length≤10+s.size:=by
 have h1:=Sv (n:=(s.size:Int)) (by omega) (by omega)
 unfold Inc.z0d
 rw[List.length_append,Ro];omega
theorem z1o (B:Nat→Prop)(x:Ic)(An Ac Au:Option Addr)(cn cc cu:Nat)(w:World)(hn:RI w B An x.nodes)(hc:RI w B Ac x.calls)(hu:RI w B Au x.units)(hs:x.code.size≤1000)(ln:x.nodes.length≤1000)(lc:x.calls.length≤1000)(lu:x.units.length≤1000)(hv:jC x=false) :
 Calls Tryz.prog 75 #[.agg (ξ x An cn Ac cc Au cu)] w (ByR [] w):=by
 have GG:=ħ (show Calls Tryz.prog 124 #[.agg (ξ x An cn Ac cc Au cu)] (w.alloc (.cells (ξ x An cn Ac cc Au cu) 48)) (qX (jC x) (w.alloc (.cells (ξ x An cn Ac cc Au cu) 48))) from kL B x.id x.urg x.dist x.since x.merged x.code An Ac Au cn cc cu x.nodes x.calls x.units x.closed _ (by omega) (hn.alloc _) (hc.alloc _) (hu.alloc _) (by omega) (by omega) (by omega))
 have HB:=ħ ((Below.refl w.heap.size w).alloc (Nat.le_refl _) (.cells (ξ x An cn Ac cc Au cu) 48))
 have x0:=(zb.new w 48 (ξ x An cn Ac cc Au cu)).facts
 rw[hv] at GG
 clear hv hn hc hu
 go_enter Tryz.func75,Tryz.ntmps75
 go_wp2_with (go_at_call 124;((with_reducible refine GG.out.mono ?_);rintro e w2 ⟨rfl,hb⟩))
 go_ret
 exact ⟨none,0,rfl,Reads.none_,HB.out.trans (hb.mono HB.out.size)⟩
theorem z1i (B:Nat→Prop)(x:Ic)(An Ac Au:Option Addr)(cn cc cu:Nat)(w:World)(hn:RI w B An x.nodes)(hc:RI w B Ac x.calls)(hu:RI w B Au x.units)(hs:x.code.size≤1000)(ln:x.nodes.length≤1000)(lc:x.calls.length≤1000)(lu:x.units.length≤1000)(hv:jC x=true) :
 Calls Tryz.prog 75 #[.agg (ξ x An cn Ac cc Au cu)] w (ByR (Rx x) w):=by
 have GG:=ħ (show Calls Tryz.prog 124 #[.agg (ξ x An cn Ac cc Au cu)] (w.alloc (.cells (ξ x An cn Ac cc Au cu) 48)) (qX (jC x) (w.alloc (.cells (ξ x An cn Ac cc Au cu) 48))) from kL B x.id x.urg x.dist x.since x.merged x.code An Ac Au cn cc cu x.nodes x.calls x.units x.closed _ (by omega) (hn.alloc _) (hc.alloc _) (hu.alloc _) (by omega) (by omega) (by omega))
 have HB:=ħ ((Below.refl w.heap.size w).alloc (Nat.le_refl _) (.cells (ξ x An cn Ac cc Au cu) 48))
 have HX:=ħ (zb.new w 48 (ξ x An cn Ac cc Au cu))
 have HN:=ħ (((hn.old (by omega)).more (B':=fun k=>k<w.heap.size) (fun k hk=>hk.2)).alloc (.cells (ξ x An cn Ac cc Au cu) 48))
 have HC:=ħ (((hc.old (by omega)).more (B':=fun k=>k<w.heap.size) (fun k hk=>hk.2)).alloc (.cells (ξ x An cn Ac cc Au cu) 48))
 have HU:=ħ (((hu.old (by omega)).more (B':=fun k=>k<w.heap.size) (fun k hk=>hk.2)).alloc (.cells (ξ x An cn Ac cc Au cu) 48))
 have hz0:(w.alloc (.cells (ξ x An cn Ac cc Au cu) 48)).heap.size=w.heap.size+1:=by simp
 obtain ⟨⟨a1,a2⟩,⟨a3,a4⟩,r8,b9,-,b2,b6,r4,r7⟩:=ku hv
 have b1:In64 x.id:=⟨by omega,by omega⟩
 have b5:In64 x.dist:=⟨by omega,by omega⟩
 have x0:=HX.out.facts
 rw[hv] at GG
 clear hv hn hc hu a1 a2 a3 a4
 have hmk:=z0O (P:=Tryz.prog) 32 3 (ι 0) 8 Tryz.underlying32 info3 rfl x.calls.length (by omega) (by omega)
 go_enter Tryz.func75,Tryz.ntmps75
 go_upto_region 3 with (go_at_call 124;((with_reducible refine GG.out.mono ?_);rintro e w2 ⟨rfl,hb⟩;have Zo:=ħ (HX.out.below hb HX.out.lt);have HB2:=ħ (HB.out.trans (hb.mono HB.out.size));have y5:=ħ (HN.out.below hb (fun k hk=>by have h2:k<w.heap.size:=hk;omega));have XE:=ħ (HC.out.below hb (fun k hk=>by have h2:k<w.heap.size:=hk;omega));have NI:=ħ (HU.out.below hb (fun k hk=>by have h2:k<w.heap.size:=hk;omega));have hs2:=hb.size;clear hb x0;have x0:=Zo.out.facts))
 rw[hz0] at hs2
 clear HX HB HN HC HU GG hz0
 have qx:=ħ (Zo.out.alloc (.cells (Fu (ι 0) x.calls.length) 3))
 have HB3:=ħ (HB2.out.alloc HB2.out.size (.cells (Fu (ι 0) x.calls.length) 3))
 have Z6:=ħ (y5.out.alloc (.cells (Fu (ι 0) x.calls.length) 3))
 have rC:=ħ (XE.out.alloc (.cells (Fu (ι 0) x.calls.length) 3))
 have HU3:=ħ (NI.out.alloc (.cells (Fu (ι 0) x.calls.length) 3))
 have tK:=ħ (show zb (w2.alloc (.cells (Fu (ι 0) x.calls.length) 3)) w2.heap.size 3 (Wr.ivs (List.replicate x.calls.length 0)).toArray by
  have:=zb.new w2 3 (Fu (ι 0) x.calls.length)
  have e:Fu (ι 0) x.calls.length=(Wr.ivs (List.replicate x.calls.length 0)).toArray:=by simp[Fu,Wr.ivs]
  rw[←e];exact this)
 have hgs:(w2.alloc (.cells (Fu (ι 0) x.calls.length) 3)).heap.size=w2.heap.size+1:=by simp
 obtain ⟨x0',x1',x2'⟩:=qx.out.facts
 go_upto_block 0 with (fail)
 clear hmk Zo HB2 y5 XE NI x0
 generalize w2.alloc _=W3 at *
 generalize w2.heap.size=g at *
 have hpC:=rC.out.plain (by omega)
 go_wp2_with fail
 go_loopw [17] (fun vi wr=>∃ (k:Nat) (q:List Int),k≤x.calls.length∧vi=ι (k:Int)∧q.length=x.calls.length∧(∀ j,j<k→gd q j=gd x.calls j)∧zb wr g 3 (Wr.ivs q).toArray∧Fr (fun j=>j=g) W3 wr) (fun vi _=>x.calls.length - (intOf vi).toNat)
 case atStart=>exact ⟨0,_,Nat.zero_le _,rfl,by simp,fun j hj=>by omega,tK.out,Fr.refl _ _⟩
 case round=>
  obtain ⟨k,q,hk,rfl,hql,hqv,hG,hF⟩:=hrel
  have HQl:=ħ hql
  have HQv:=ħ hqv
  have HG:=ħ hG
  have HF:=ħ hF
  have hq1:q.length≤x.calls.length:=by omega
  have hq2:x.calls.length≤q.length:=by omega
  clear hql hqv hG hF
  by_cases hlt:k<x.calls.length
  ·have hlt':(k:Int)<x.calls.length:=by omega
   have hix:=fun W=>Ki hpC cc k hlt W
   have hcc:=qJ (rC.out.fr HF.out (fun j hj e=>by have h2:j<w.heap.size:=hj;have e2:j=g:=e;omega)) hlt
   have z0m:∀ W:World,(Instr.indexAt 32 (.slice (some ⟨g,0,none⟩) x.calls.length x.calls.length) (ι (k:Int))).run Tryz.prog W=.ok (.pointer (some ⟨g,k,none⟩)) W:=fun W=>by
    have:=JI (A:=some ⟨g,0,none⟩) (n:=x.calls.length) (fun _=>⟨g,0,rfl⟩) x.calls.length k hlt W
    simpa [bk,qP,aO] using this
   have HV:=ħ (show ∀ v,v=gd x.calls k→∀ j,j<k+1→gd (q.set k v) j=gd x.calls j from fun v hv j hj=>by
    rw[Wr.gd_set (by omega)]
    by_cases hjk:j=k
    ·rw[if_pos hjk,hv,hjk]
    ·rw[if_neg hjk];exact HQv.out j (by omega))
   obtain ⟨v,hv⟩:∃ v,v=gd x.calls k:=⟨_,rfl⟩
   rw[←hv] at hcc
   have HVv:=ħ (HV.out v hv)
   clear HV hv
   have a0:=HG.out.lt
   have a2:=HG.out.frozen
   have hcq:wr.cell? ⟨g,k,none⟩=some (ι (gd q k)):=by rw[HG.out.cell];exact Wr.ivs_get (by omega)
   have hG2:=HG.out.set_ k (ι v)
   rw[Wr.ivs_set] at hG2
   have HG2:=ħ hG2
   have Dh:=ħ (HF.out.setCell (p:=⟨g,k,none⟩) (.inl rfl) (ι v))
   clear hG2
   go_wp2_with fail
   exact ⟨⟨k+1,q.set k v,by omega,by go_num,by rw[List.length_set];omega,HVv.out,HG2.out,Dh.out⟩,by simp[intOf];omega⟩
  ·have hlt':¬ (k:Int)<x.calls.length:=by omega
   have hk3:k=x.calls.length:=by omega
   subst hk3
   have hqe:q=x.calls:=Wr.gd_ext HQl.out (fun j hj=>HQv.out j hj)
   have hws:=HF.out.size
   have hG:=HG.out
   rw[hqe] at hG
   clear HG HQl HQv hq1 hq2 hqe hlt hlt'
   have hC4:RI (wr.alloc (.cells #[.slice none 0 0] 112)) (fun j=>j<wr.heap.size) (some ⟨g,0,none⟩) x.calls:=by
    have h1:=Reads.of_blk (B:=fun j=>j<wr.heap.size) (n:=x.calls.length) (size:=1) hG (by simp) hG.lt
    have h2:(Wr.ivs x.calls).toArray.toList.take (x.calls.length * 1)=Wr.ivs x.calls:=List.take_of_length_le (by simp)
    rw[h2] at h1
    exact h1.alloc _
   have wh:=ħ hC4
   have hgl:=hG.lt
   clear hG hC4
   have HX0:=ħ ((qx.out.fr HF.out (by show ¬ (w.heap.size=g);omega)).alloc (.cells #[.slice none 0 0] 112))
   have y8:=ħ (((Z6.out.fr HF.out (fun j hj e=>by have h2:j<w.heap.size:=hj;have e2:j=g:=e;omega)).alloc (.cells #[.slice none 0 0] 112)).more (B':=fun j=>j<w.heap.size∧j<wr.heap.size) (fun j hj=>⟨hj,by have h2:j<w.heap.size:=hj;omega⟩))
   have nI:=ħ (((HU3.out.fr HF.out (fun j hj e=>by have h2:j<w.heap.size:=hj;have e2:j=g:=e;omega)).alloc (.cells #[.slice none 0 0] 112)).more (B':=fun j=>j<w.heap.size∧j<wr.heap.size) (fun j hj=>⟨hj,by have h2:j<w.heap.size:=hj;omega⟩))
   have HB0:=ħ ((HB3.out.trans (HF.out.below (B:=w.heap.size) HB3.out.size (fun j hj e=>by have e2:j=g:=e;omega))).alloc (by omega) (.cells #[.slice none 0 0] 112))
   have HW0:=ħ (Wr.WrP.new wr)
   have hwl:w.heap.size+1<wr.heap.size:=by omega
   clear qx HB3 Z6 rC HU3 tK HF x0' x1' x2' hgs
   go_upto_region 10 with (fail)
   generalize wr.alloc _=W4 at *
   generalize wr.heap.size=p at *
   have x0:=HX0.out.facts
   obtain ⟨o0,ho0⟩:∃ o:List Int,o=[]:=⟨_,rfl⟩
   rw[←ho0] at HW0
   have hl0:o0.length≤0:=by rw[ho0];exact Nat.le_refl _
   have zD:=ħ ho0
   clear ho0
   have HI:=ħ fun (n:Int) (o:List Int) (W:World) (hw:Wr.WrP W p o) (h0:-9223372036854775808≤n) (h1:n<9223372036854775808) (hl:o.length≤500000)=>Wr.int_any p n o W hw h0 h1 (by omega)
   have HS:=ħ fun (o:List Int) (W:World) (hw:Wr.WrP W p o) (hl:o.length≤500000)=>Wr.wstr_any p x.code o W hw (by omega) (by omega)
   have HL:=ħ fun (A:Option Addr) (c:Nat) (l o:List Int) (W:World) (hw:Wr.WrP W p o) (hr:RI W (· < p) A l) (hx:mZ l) (hm:l.length≤1000) (hl:o.length≤500000)=>Wr.wints_any p A c l o W hw hr hx hm (by omega)
   have Mr:=ħ fun (o:List Int) (W:World) (hw:Wr.WrP W p o) (hl:o.length≤500000)=>Wr.wbool_any p x.closed o W hw (by omega)
   have OO:=ħ fun (o:List Int) (W:World) (hw:Wr.WrP W p o) (hl:o.length≤500000)=>Wr.encoded_any p o W hw (by omega)
   have q1:=Sv b1.1 b1.2
   have q2:=Sv b2.1 b2.2
   have q3:=z0U hs
   have q4:=Kb ln r4
   have q5:=Sv b5.1 b5.2
   have q6:=Sv b6.1 b6.2
   have q7:=Kb lc r7
   have q8:=Kb lu r8
   have q9:=Sv b9.1 b9.2
   have q10:=z0R x.closed
   have b1:-9223372036854775808≤x.id∧x.id<9223372036854775808:=b1
   have b2:-9223372036854775808≤x.urg∧x.urg<9223372036854775808:=b2
   have b5:-9223372036854775808≤x.dist∧x.dist<9223372036854775808:=b5
   have b6:-9223372036854775808≤x.since∧x.since<9223372036854775808:=b6
   have b9:-9223372036854775808≤x.merged∧x.merged<9223372036854775808:=b9
   go_wp2_with (first
    | (go_at_call 76;((with_reducible refine (HI.out x.id _ _ HW0.out b1.1 b1.2 (by omega)).mono ?_);rintro e w3 ⟨rfl,hw,hb⟩;obtain ⟨o1,ho⟩:∃ o,o=o0 ++ Wire.z01 x.id:=⟨_,rfl⟩;rw[←ho] at hw;have HW1:=ħ hw;have zu:=ħ ho;have hl1:o1.length≤10:=(by rw[ho,List.length_append];omega);clear hw ho;have KI:=ħ (HX0.out.below hb (by omega));have HB1:=ħ (HB0.out.trans (hb.mono (by omega)));have HU1:=ħ (nI.out.below hb (fun k hk=>hk.2));have aS:=ħ (wh.out.below hb (fun k hk=>hk));have qa:=ħ (y8.out.below hb (fun k hk=>hk.2));clear hb x0;have x0:=KI.out.facts))
    | (go_at_call 76;((with_reducible refine (HI.out x.urg _ _ HW1.out b2.1 b2.2 (by omega)).mono ?_);rintro e w4 ⟨rfl,hw,hb⟩;obtain ⟨o2,ho⟩:∃ o,o=o1 ++ Wire.z01 x.urg:=⟨_,rfl⟩;rw[←ho] at hw;have HW2:=ħ hw;have zk:=ħ ho;have hl2:o2.length≤20:=(by rw[ho,List.length_append];omega);clear hw ho;have Zo:=ħ (KI.out.below hb (by omega));have HB2:=ħ (HB1.out.trans (hb.mono (by omega)));have NI:=ħ (HU1.out.below hb (fun k hk=>hk.2));have XE:=ħ (aS.out.below hb (fun k hk=>hk));have y5:=ħ (qa.out.below hb (fun k hk=>hk.2));clear hb x0;have x0:=Zo.out.facts))
    | (go_at_call 77;((with_reducible refine (HS.out _ _ HW2.out (by omega)).mono ?_);rintro e w5 ⟨rfl,hw,hb⟩;obtain ⟨o3,ho⟩:∃ o,o=o2 ++ Inc.z0d x.code:=⟨_,rfl⟩;rw[←ho] at hw;have HW3:=ħ hw;have zC:=ħ ho;have hl3:o3.length≤1100:=(by rw[ho,List.length_append];omega);clear hw ho;have qx:=ħ (Zo.out.below hb (by omega));have HB3:=ħ (HB2.out.trans (hb.mono (by omega)));have HU3:=ħ (NI.out.below hb (fun k hk=>hk.2));have rC:=ħ (XE.out.below hb (fun k hk=>hk));have Z6:=ħ (y5.out.below hb (fun k hk=>hk.2));clear hb x0;have x0:=qx.out.facts))
    | (go_at_call 78;((with_reducible refine (HL.out An cn x.nodes _ _ HW3.out (Z6.out.more (fun k hk=>hk.2)) r4 ln (by omega)).mono ?_);rintro e w6 ⟨rfl,hw,hb⟩;obtain ⟨o4,ho⟩:∃ o,o=o3 ++ Wire.encIs x.nodes:=⟨_,rfl⟩;rw[←ho] at hw;have HW4:=ħ hw;have zP:=ħ ho;have hl4:o4.length≤12000:=(by rw[ho,List.length_append];omega);clear hw ho;have jv:=ħ (qx.out.below hb (by omega));have Zp:=ħ (HB3.out.trans (hb.mono (by omega)));have tT:=ħ (HU3.out.below hb (fun k hk=>hk.2));have OP:=ħ (rC.out.below hb (fun k hk=>hk));have qA:=ħ (Z6.out.below hb (fun k hk=>hk.2));clear hb x0;have x0:=jv.out.facts))
    | (go_at_call 76;((with_reducible refine (HI.out x.dist _ _ HW4.out b5.1 b5.2 (by omega)).mono ?_);rintro e w7 ⟨rfl,hw,hb⟩;obtain ⟨o5,ho⟩:∃ o,o=o4 ++ Wire.z01 x.dist:=⟨_,rfl⟩;rw[←ho] at hw;have HW5:=ħ hw;have qm:=ħ ho;have hl5:o5.length≤12010:=(by rw[ho,List.length_append];omega);clear hw ho;have jq:=ħ (jv.out.below hb (by omega));have ZN:=ħ (Zp.out.trans (hb.mono (by omega)));have BO:=ħ (tT.out.below hb (fun k hk=>hk.2));have BD:=ħ (OP.out.below hb (fun k hk=>hk));have y9:=ħ (qA.out.below hb (fun k hk=>hk.2));clear hb x0;have x0:=jq.out.facts))
    | (go_at_call 76;((with_reducible refine (HI.out x.since _ _ HW5.out b6.1 b6.2 (by omega)).mono ?_);rintro e w8 ⟨rfl,hw,hb⟩;obtain ⟨o6,ho⟩:∃ o,o=o5 ++ Wire.z01 x.since:=⟨_,rfl⟩;rw[←ho] at hw;have HW6:=ħ hw;have yS:=ħ ho;have mH:o6.length≤12020:=(by rw[ho,List.length_append];omega);clear hw ho;have ZI:=ħ (jq.out.below hb (by omega));have Qq:=ħ (ZN.out.trans (hb.mono (by omega)));have C_:=ħ (BO.out.below hb (fun k hk=>hk.2));have Dm:=ħ (BD.out.below hb (fun k hk=>hk));have yx:=ħ (y9.out.below hb (fun k hk=>hk.2));clear hb x0;have x0:=ZI.out.facts))
    | (go_at_call 78;((with_reducible refine (HL.out (some ⟨g,0,none⟩) x.calls.length x.calls _ _ HW6.out Dm.out r7 lc (by omega)).mono ?_);rintro e w9 ⟨rfl,hw,hb⟩;obtain ⟨o7,ho⟩:∃ o,o=o6 ++ Wire.encIs x.calls:=⟨_,rfl⟩;rw[←ho] at hw;have M5:=ħ hw;have j_:=ħ ho;have hl7:o7.length≤23000:=(by rw[ho,List.length_append];omega);clear hw ho;have Kn:=ħ (ZI.out.below hb (by omega));have Z7:=ħ (Qq.out.trans (hb.mono (by omega)));have cK:=ħ (C_.out.below hb (fun k hk=>hk.2));have iG:=ħ (Dm.out.below hb (fun k hk=>hk));have ZM:=ħ (yx.out.below hb (fun k hk=>hk.2));clear hb x0;have x0:=Kn.out.facts))
    | (go_at_call 78;((with_reducible refine (HL.out Au cu x.units _ _ M5.out (cK.out.more (fun k hk=>hk.2)) r8 lu (by omega)).mono ?_);rintro e VT ⟨rfl,hw,hb⟩;obtain ⟨o8,ho⟩:∃ o,o=o7 ++ Wire.encIs x.units:=⟨_,rfl⟩;rw[←ho] at hw;have HW8:=ħ hw;have YY:=ħ ho;have hl8:o8.length≤34000:=(by rw[ho,List.length_append];omega);clear hw ho;have BG:=ħ (Kn.out.below hb (by omega));have Jy:=ħ (Z7.out.trans (hb.mono (by omega)));have LW:=ħ (cK.out.below hb (fun k hk=>hk.2));have MU:=ħ (iG.out.below hb (fun k hk=>hk));have V6:=ħ (ZM.out.below hb (fun k hk=>hk.2));clear hb x0;have x0:=BG.out.facts))
    | (go_at_call 76;((with_reducible refine (HI.out x.merged _ _ HW8.out b9.1 b9.2 (by omega)).mono ?_);rintro e w11 ⟨rfl,hw,hb⟩;obtain ⟨o9,ho⟩:∃ o,o=o8 ++ Wire.z01 x.merged:=⟨_,rfl⟩;rw[←ho] at hw;have HW9:=ħ hw;have Z5:=ħ ho;have hl9:o9.length≤34010:=(by rw[ho,List.length_append];omega);clear hw ho;have VM:=ħ (BG.out.below hb (by omega));have Z_:=ħ (Jy.out.trans (hb.mono (by omega)));have HU9:=ħ (LW.out.below hb (fun k hk=>hk.2));have lF:=ħ (MU.out.below hb (fun k hk=>hk));have fI:=ħ (V6.out.below hb (fun k hk=>hk.2));clear hb x0;have x0:=VM.out.facts))
    | (go_at_call 79;((with_reducible refine (Mr.out _ _ HW9.out (by omega)).mono ?_);rintro e w12 ⟨rfl,hw,hb⟩;obtain ⟨o10,ho⟩:∃ o,o=o9 ++ Inc.encB x.closed:=⟨_,rfl⟩;rw[←ho] at hw;have z1X:=ħ hw;have pM:=ħ ho;have z2G:o10.length≤34011:=(by rw[ho,List.length_append];omega);clear hw ho;have wI:=ħ (VM.out.below hb (by omega));have EI:=ħ (Z_.out.trans (hb.mono (by omega)));have z2Q:=ħ (HU9.out.below hb (fun k hk=>hk.2));have z2s:=ħ (lF.out.below hb (fun k hk=>hk));have Jh:=ħ (fI.out.below hb (fun k hk=>hk.2));clear hb x0;have x0:=wI.out.facts))
    | (go_at_call 80;((with_reducible refine (OO.out _ _ z1X.out (by omega)).mono ?_);rintro e w20 ⟨A20,c20,rfl,z1V,z1Z⟩)))
   go_ret
   have he:o10=Rx x:=by
    rw[pM.out,Z5.out,YY.out,j_.out,yS.out,qm.out,zP.out,zC.out,zk.out,zu.out,zD.out]
    unfold Rx
    simp only[List.append_assoc,List.nil_append]
   rw[←he]
   exact ⟨A20,c20,rfl,z1V.more (fun j hj=>Nat.le_trans EI.out.size hj),EI.out.trans (z1Z.mono EI.out.size)⟩
def enc1 (x:Ic):List Int:=if jC x=true then Rx x else []
theorem z1b {x:Ic}(h:jC x=true)(hs:x.code.size≤1000)(ln:x.nodes.length≤1000)(lc:x.calls.length≤1000)(lu:x.units.length≤1000):IcS x:=by
 obtain ⟨⟨a1,a2⟩,⟨a3,a4⟩,r8,b9,-,b2,b6,r4,r7⟩:=ku h
 exact ⟨⟨by omega,by omega⟩,b2,hs,r4,ln,⟨by omega,by omega⟩,b6,r7,lc,r8,lu,b9⟩
theorem z1B (B:Nat→Prop)(x:Ic)(An Ac Au:Option Addr)(cn cc cu:Nat)(w:World)(hn:RI w B An x.nodes)(hc:RI w B Ac x.calls)(hu:RI w B Au x.units)(hs:x.code.size≤1000)(ln:x.nodes.length≤1000)(lc:x.calls.length≤1000)(lu:x.units.length≤1000):Calls Tryz.prog 75 #[.agg (ξ x An cn Ac cc Au cu)] w (ByR (enc1 x) w):=by
 unfold enc1
 cases hv:jC x with
 | true=>rw[if_pos rfl];exact z1i B x An Ac Au cn cc cu w hn hc hu hs ln lc lu hv
 | false=>rw[if_neg (by simp)];exact z1o B x An Ac Au cn cc cu w hn hc hu hs ln lc lu hv
theorem z1f (B:Nat→Prop)(x:Ic)(An Ac Au:Option Addr)(cn cc cu:Nat)(w:World)(hn:RI w B An x.nodes)(hc:RI w B Ac x.calls)(hu:RI w B Au x.units)(hs:x.code.size≤1000)(ln:x.nodes.length≤1000)(lc:x.calls.length≤1000)(lu:x.units.length≤1000):Calls Tryz.prog 81 #[.agg (ξ x An cn Ac cc Au cu)] w (ByR (enc1 x) w):=by
 have BU:=ħ (show Calls Tryz.prog 69 #[.agg (ξ x An cn Ac cc Au cu)] (w.alloc (.cells (ξ x An cn Ac cc Au cu) 48)) (qX (jC x) (w.alloc (.cells (ξ x An cn Ac cc Au cu) 48))) from uU B x.id x.urg x.dist x.since x.merged x.code An Ac Au cn cc cu x.nodes x.calls x.units x.closed _ (by omega) (hn.alloc _) (hc.alloc _) (hu.alloc _) (by omega) (by omega) (by omega))
 have HB:=ħ ((Below.refl w.heap.size w).alloc (Nat.le_refl _) (.cells (ξ x An cn Ac cc Au cu) 48))
 have HX:=ħ (zb.new w 48 (ξ x An cn Ac cc Au cu))
 have hz0:(w.alloc (.cells (ξ x An cn Ac cc Au cu) 48)).heap.size=w.heap.size+1:=by simp
 have HN:=ħ (((hn.old (by omega)).more (B':=fun k=>k<w.heap.size) (fun k hk=>hk.2)).alloc (.cells (ξ x An cn Ac cc Au cu) 48))
 have HC:=ħ (((hc.old (by omega)).more (B':=fun k=>k<w.heap.size) (fun k hk=>hk.2)).alloc (.cells (ξ x An cn Ac cc Au cu) 48))
 have HU:=ħ (((hu.old (by omega)).more (B':=fun k=>k<w.heap.size) (fun k hk=>hk.2)).alloc (.cells (ξ x An cn Ac cc Au cu) 48))
 have x0:=HX.out.facts
 cases hv:jC x with
 | false=>
  have he:enc1 x=[]:=by unfold enc1;rw[if_neg (by rw[hv];simp)]
  rw[he]
  rw[hv] at BU
  clear hv hn hc hu he
  go_enter Tryz.func81,Tryz.ntmps81
  go_wp2_with (go_at_call 69;((with_reducible refine BU.out.mono ?_);rintro e w2 ⟨rfl,hb⟩))
  go_ret
  exact ⟨none,0,rfl,Reads.none_,HB.out.trans (hb.mono HB.out.size)⟩
 | true=>
  have he:enc1 x=Rx x:=by unfold enc1;rw[if_pos hv]
  have hS:=z1b hv hs ln lc lu
  rw[he]
  have NF:=ħ fun (W:World) (hb:Below w.heap.size (w.alloc (.cells (ξ x An cn Ac cc Au cu) 48)) W)=>(show Calls Tryz.prog 63 #[.agg (ξ x An cn Ac cc Au cu)] W (PO (Rx x) W) from Wl (fun k=>k<w.heap.size) x.id x.urg x.dist x.since x.merged x.code x.nodes x.calls x.units An Ac Au cn cc cu x.closed W (HN.out.below hb (fun _ h=>h)) (HC.out.below hb (fun _ h=>h)) (HU.out.below hb (fun _ h=>h)) hS)
  rw[hv] at BU
  clear hv hn hc hu he
  generalize Rx x=en at *
  go_enter Tryz.func81,Tryz.ntmps81
  go_wp2_with (first | (go_at_call 69;((with_reducible refine BU.out.mono ?_);rintro e w2 ⟨rfl,hb⟩;have Zo:=ħ (HX.out.below hb HX.out.lt);have hb2:=hb.mono (show w.heap.size≤_ by omega);clear x0;have x0:=Zo.out.facts)) | (go_at_call 63;((with_reducible refine (NF.out _ hb2).mono ?_);rintro e w3 ⟨A3,c3,rfl,ho3,hb3⟩)))
  go_ret
  have hsz:=hb2.size
  exact ⟨A3,c3,rfl,(Reads.of_own ho3).more (fun j hj=>by have:=(ho3.lt j hj).1;omega),(HB.out.trans hb2).trans (hb3.mono (by omega))⟩
theorem z0M (x:Ic):Bytes (enc1 x):=by
 unfold enc1
 split
 ·exact RJ x
 ·exact fun b hb=>by simp at hb
theorem z0J {x:Ic}(hs:x.code.size≤1000)(ln:x.nodes.length≤1000)(lc:x.calls.length≤1000)(lu:x.units.length≤1000):(enc1 x).length≤40000:=by
 unfold enc1
 split
 ·next h=>
  have S:=z1b h hs ln lc lu
  have q1:=Sv S.id.1 S.id.2
  have q2:=Sv S.urg.1 S.urg.2
  have q3:=z0U hs
  have q4:=Kb ln S.nodes
  have q5:=Sv S.dist.1 S.dist.2
  have q6:=Sv S.since.1 S.since.2
  have q7:=Kb lc S.calls
  have q8:=Kb lu S.units
  have q9:=Sv S.merged.1 S.merged.2
  have q10:=z0R x.closed
  unfold Rx
  simp only[List.length_append]
  omega
 ·simp
end Go.Proofs.YtdhcjhfgibmhfaaGreatDoor
