import Derived.Test.YtdhcjhfgibmhfaaGreatDoorJG10
import Derived.Laws.BitsAllLaws
import Derived.Test.YtdhcjhfgibmhfaaGreatDoorJG1
import Derived.Test.YtdhcjhfgibmhfaaGreatDoorJG29
set_option linter.unusedVariables false
set_option linter.unusedSimpArgs false
set_option maxRecDepth 10000
set_option maxHeartbeats 2000000
namespace Go.Wire
def K6 (s b:Int):Int:=bits .xor .u64 (IntKind.u64.wrap (bits .xor .u64 s b * 1099511628211)) (IntKind.u64.wrap (bits .xor .u64 s b * 1099511628211) / 4294967296)
def XL (s:Int)(l:List Int):Int:=l.foldl K6 s
def vk:Int:=14695981039346656037
theorem z0P (n:Int):0≤IntKind.u64.wrap n∧IntKind.u64.wrap n<18446744073709551616:=by rw[IntKind.wrap_u64];omega
theorem z0V (s b:Int):0≤K6 s b∧K6 s b<18446744073709551616:=by
 unfold K6
 have h:=z0P (bits .xor .u64 s b * 1099511628211)
 generalize IntKind.u64.wrap (bits .xor .u64 s b * 1099511628211)=x at *
 rw[u64_xor _ _ h.1 h.2 (by omega) (by omega)]
 have:x.toNat ^^^ (x / 4294967296).toNat<2 ^ 64:=Nat.xor_lt_two_pow (by omega) (by omega)
 omega
def z1q (l b i:Nat):Nat:=if l / 2 ^ i % 2=b / 2 ^ i % 2 then 0 else 2 ^ i
def z0o (l b:Nat):Nat→Nat
 | 0=>0
 | k+1=>z0o l b k+z1q l b k
theorem z0H (l b:Nat):∀ k,z0o l b k=(l ^^^ b) % 2 ^ k
 | 0=>by rw[Nat.pow_zero,Nat.mod_one];rfl
 | k+1=>by
  show z0o l b k+z1q l b k=_
  rw[z0H l b k,Nat.mod_pow_succ]
  have h1:(l ^^^ b) / 2 ^ k % 2=(l / 2 ^ k % 2) ^^^ (b / 2 ^ k % 2):=by
   rw[Nat.xor_div_two_pow]
   have:=Nat.xor_mod_two_pow (a:=l / 2 ^ k) (b:=b / 2 ^ k) (n:=1)
   simpa using this
  rw[h1]
  unfold z1q
  have ha:l / 2 ^ k % 2<2:=Nat.mod_lt _ (by omega)
  have hb:b / 2 ^ k % 2<2:=Nat.mod_lt _ (by omega)
  generalize l / 2 ^ k % 2=u at *
  generalize b / 2 ^ k % 2=v at *
  have hu:u=0∨u=1:=by omega
  have hv:v=0∨v=1:=by omega
  rcases hu with rfl | rfl <;> rcases hv with rfl | rfl <;> simp
theorem z0Z (l b:Nat)(k:Nat):z0o l b k<2 ^ k:=by rw[z0H];exact Nat.mod_lt _ (Nat.pow_pos (by omega))
theorem z0W {l b:Nat}(hl:l<256)(hb:b<256):z0o l b 8=l ^^^ b:=by
 rw[z0H]
 exact Nat.mod_eq_of_lt (Nat.xor_lt_two_pow (n:=8) (by omega) (by omega))
theorem z1j (s b:Nat)(hb:b<256):s ^^^ b=(s - s % 256)+z0o (s % 256) b 8:=by
 have h1:=z0W (l:=s % 256) (b:=b) (by omega) hb
 rw[h1]
 have h2:(s ^^^ b) / 2 ^ 8=s / 2 ^ 8 ^^^ b / 2 ^ 8:=Nat.xor_div_two_pow ..
 have h3:(s ^^^ b) % 2 ^ 8=s % 2 ^ 8 ^^^ b % 2 ^ 8:=Nat.xor_mod_two_pow ..
 have h4:b / 2 ^ 8=0:=by omega
 rw[h4,Nat.xor_zero] at h2
 rw[show b % 2 ^ 8=b by omega] at h3
 simp only[show (2:Nat) ^ 8=256 from rfl] at h2 h3
 omega
end Go.Wire
namespace Go.Proofs.YtdhcjhfgibmhfaaGreatDoor
open Go.RowKit Go.Own Go.Quo Go.Inc Go.Wire
theorem i5x:∃ i,Tryz.prog.info? 5=some i∧i.size=1:=by obtain ⟨i,h,_,h2,_⟩:=info_parts info5;exact ⟨i,h,h2⟩
theorem z1v {A:Option Addr}{n:Nat}(hA:Plain A n)(c k:Nat)(hk:k<n)(w:World):(Instr.indexAt 99 (.slice A n c) (ι (k:Int))).run Tryz.prog w=.ok (.pointer (some ⟨bk A,qP A+k,none⟩)) w:=by
 obtain ⟨i,h1,h2⟩:=i5x
 have:=jk (P:=Tryz.prog) Tryz.underlying99 h1 h2 hA c k hk w
 rw[Nat.mul_one] at this
 exact this
theorem z19 {w:World}{B:Nat→Prop}{A:Option Addr}{b:List Int}(h:Reads w B 1 A b.length (bys b)){k:Nat}(hk:k<b.length):w.cell? ⟨bk A,qP A+k,none⟩=some (.int .u8 (gd b k)):=by
 have:=h.cell2 k (by omega) (by omega)
 rw[this,qd hk]
 simp[bys,hk]
theorem z0X (s b:Int)(hb0:0≤b)(hb1:b<256)(w:World) :
 Calls Tryz.prog 123 #[.int .u64 s,.int .u8 b] w fun e w'=>e=.returned (.int .u64 (K6 s b))∧w=w':=by
 have hw:IntKind.u64.wrap b=b:=by rw[IntKind.wrap_u64];omega
 have HA:=ħ (show K6 s b=bits .xor .u64 (IntKind.u64.wrap (bits .xor .u64 s b * 1099511628211)) (IntKind.u64.wrap (bits .xor .u64 s b * 1099511628211) / 4294967296) from rfl)
 generalize K6 s b=R at *
 go_enter Tryz.func123,Tryz.ntmps123
 go_wp2
 go_ret
 exact ⟨by rw[HA.out];rfl,rfl⟩
theorem z0u (B:Nat→Prop)(A:Option Addr)(c:Nat)(s:Int)(l:List Int)(w:World)(h:Reads w B 1 A l.length (bys l))(hB:Bytes l)(hl:l.length≤1000000000) :
 Calls Tryz.prog 74 #[.int .u64 s,.slice A l.length c] w fun e w'=>e=.returned (.int .u64 (XL s l))∧w=w':=by
 have HC:=ħ fun s b h0 h1=>z0X s b h0 h1 w
 have pA:=h.plain (by omega)
 have HF:=ħ (show XL s l=(l.take l.length).foldl K6 s by rw[List.take_of_length_le (Nat.le_refl _)];rfl)
 have HB:=ħ hB
 clear hB
 go_enter Tryz.func74,Tryz.ntmps74
 go_wp2_with fail
 go_loopw [0,9] (fun vs vi wr=>∃ k:Nat,k≤l.length∧vi=ι k∧vs=.int .u64 ((l.take k).foldl K6 s)∧wr=w) (fun _ i _=>l.length - (intOf i).toNat)
 case atStart=>exact ⟨0,by omega,rfl,rfl,rfl⟩
 case round=>
  obtain ⟨k,hk,rfl,rfl,rfl⟩:=hrel
  by_cases hlt:k<l.length
  ·have hlt':(k:Int)<l.length:=by omega
   have hix:=fun W=>z1v pA c k hlt W
   have hc:=z19 h hlt
   have hr:=HB.out (gd l k) (by rw[qd hlt];exact List.getElem_mem hlt)
   have HSk:=ħ (show (l.take (k+1)).foldl K6 s=K6 ((l.take k).foldl K6 s) (gd l k) by rw[List.take_succ_eq_append_getElem hlt,List.foldl_append,qd hlt];rfl)
   generalize (l.take k).foldl K6 s=x at *
   generalize gd l k=y at *
   have HC:=ħ (HC.out x y hr.1 hr.2)
   go_wp2_with (go_at_call 123;((with_reducible refine HC.out.mono ?_);rintro e w1 ⟨rfl,rfl⟩))
   exact ⟨⟨k+1,by omega,by go_num,by rw[HSk.out],by trivial⟩,by simp[intOf];omega⟩
  ·have hge:¬ ((k:Int)<l.length):=by omega
   have HK:=ħ (show k=l.length by omega)
   go_wp2
   go_ret
   rw[HF.out,←HK.out]
   exact ⟨rfl,rfl⟩
theorem z1w (w:World):Calls Tryz.prog 73 #[.slice none 0 0] w fun e w'=>e=.returned (.int .u64 vk)∧w=w':=by
 have H74:=ħ (show Calls Tryz.prog 74 #[.int .u64 14695981039346656037,.slice none 0 0] w (fun e w'=>e=.returned (.int .u64 vk)∧w=w') from z0u (fun _=>False) none 0 14695981039346656037 [] w Reads.none_ (fun x hx=>by simp at hx) (by simp))
 go_enter Tryz.func73,Tryz.ntmps73
 go_wp2_with (go_at_call 74;((with_reducible refine H74.out.mono ?_);rintro e w1 ⟨rfl,rfl⟩))
 go_ret
 exact ⟨rfl,rfl⟩
theorem z1h (s b:Nat)(hs:s<18446744073709551616)(hb:b<256)(w:World) :
 Calls Tryz.prog 160 #[.int .u64 (s:Int),.int .u8 (b:Int)] w fun e w'=>e=.returned (.int .u64 (K6 s b))∧Below w.heap.size w w':=by
 have hm:(s:Int) % 256=((s % 256:Nat):Int):=by omega
 have hl0:s % 256<256:=Nat.mod_lt _ (by omega)
 have hls:s % 256≤s:=Nat.mod_le _ _
 obtain ⟨l,hl⟩:∃ l,l=s % 256:=⟨_,rfl⟩
 rw[←hl] at hm hl0 hls
 have hwb:IntKind.u64.wrap (b:Int)=(b:Int):=by rw[IntKind.wrap_u64];omega
 have HX:=ħ (show s ^^^ b=(s - l)+z0o l b 8 by rw[hl];exact z1j s b hb)
 clear hl
 go_enter Tryz.func160,Tryz.ntmps160
 go_wp2_with fail
 simp only[hm]
 clear hm
 go_loopw [6,7] (fun vx vp wr=>∃ k:Nat,k≤8∧vp=.int .u64 ((2 ^ k:Nat):Int)∧vx=.int .u64 ((z0o l b k:Nat):Int)∧Below w.heap.size w wr) (fun _ vp _=>256 - (intOf vp).toNat)
 case atStart=>exact ⟨0,by omega,rfl,rfl,Below.refl _ _⟩
 case round=>
  obtain ⟨k,hk,rfl,rfl,hbw⟩:=hrel
  have Qp:=ħ hbw
  clear hbw
  by_cases hk8:k<8
  ·have hp1:1≤2 ^ k:=Nat.pow_pos (by omega)
   have hp2:2 ^ k≤128:=Nat.pow_le_pow_right (n:=2) (by omega) (show k≤7 by omega)
   have HP:=ħ (show 2 ^ (k+1)=2 ^ k * 2 from Nat.pow_succ ..)
   have hx:=z0Z l b k
   have HB:=ħ (show z0o l b (k+1)=z0o l b k+(if l / 2 ^ k % 2=b / 2 ^ k % 2 then 0 else 2 ^ k) from rfl)
   generalize 2 ^ k=q at *
   generalize z0o l b k=x at *
   have hlt:(q:Int)<256:=by omega
   have hq0:¬ (q:Int)=0:=by omega
   have hq1:((q:Int) == 0)=false:=by simpa using hq0
   have z1t:l / q≤l:=Nat.div_le_self _ _
   have z1u:b / q≤b:=Nat.div_le_self _ _
   have c1:(l:Int) / (q:Int)=((l / q:Nat):Int):=(Int.natCast_ediv ..).symm
   have c2:(b:Int) / (q:Int)=((b / q:Nat):Int):=(Int.natCast_ediv ..).symm
   generalize l / q=lq at *
   generalize b / q=bq at *
   have e1:IntKind.u64.wrap ((l:Int) / (q:Int))=(lq:Int):=by rw[c1,IntKind.wrap_u64];omega
   have e2:IntKind.u64.wrap ((b:Int) / (q:Int))=(bq:Int):=by rw[c2,IntKind.wrap_u64];omega
   have e5:IntKind.u64.wrap ((x:Int)+(q:Int))=((x+q:Nat):Int):=by rw[IntKind.wrap_u64];omega
   have e6:IntKind.u64.wrap ((q:Int) * 2)=((q * 2:Nat):Int):=by rw[IntKind.wrap_u64];omega
   have hu2:(lq:Int).tmod 2=((lq % 2:Nat):Int):=by rw[Int.tmod_eq_emod_of_nonneg (by omega)];omega
   have hv2:(bq:Int).tmod 2=((bq % 2:Nat):Int):=by rw[Int.tmod_eq_emod_of_nonneg (by omega)];omega
   by_cases hd:lq % 2=bq % 2
   ·have e3:((lq:Int).tmod 2 != (bq:Int).tmod 2)=false:=by rw[hu2,hv2,hd];simp
    rw[if_pos hd] at HB
    clear hd hu2 hv2 z1t z1u c1 c2
    go_upto_region 6 with fail
    go_region_held (fun _=>True) (trivial) (fail)
    all_goals
     go_wp2_with fail
     exact ⟨⟨k+1,by omega,by rw[HP.out];simp,by rw[HB.out];simp,Qp.out.drew⟩,by simp[intOf];omega⟩
   ·have e3:((lq:Int).tmod 2 != (bq:Int).tmod 2)=true:=by rw[hu2,hv2];simp;omega
    rw[if_neg hd] at HB
    clear hd hu2 hv2 z1t z1u c1 c2
    go_upto_region 6 with fail
    go_region_held (fun _=>True) (trivial) (fail)
    all_goals
     go_wp2_with fail
     exact ⟨⟨k+1,by omega,by rw[HP.out];simp,by rw[HB.out];simp,Qp.out.drew⟩,by simp[intOf];omega⟩
  ·have hk2:k=8:=by omega
   subst hk2
   have hx:=z0Z l b 8
   have hge:¬ (((2 ^ 8:Nat):Int)<256):=by decide
   have e7:IntKind.u64.wrap ((s:Int) - (l:Int))=((s - l:Nat):Int):=by rw[IntKind.wrap_u64];omega
   have hxs:s ^^^ b<18446744073709551616:=Nat.xor_lt_two_pow (n:=64) (by omega) (by omega)
   have hxx:=HX.out
   generalize z0o l b 8=x at *
   have e8:IntKind.u64.wrap (((s - l:Nat):Int)+(x:Int))=((s ^^^ b:Nat):Int):=by rw[IntKind.wrap_u64];omega
   have hxi:bits .xor .u64 (s:Int) (b:Int)=((s ^^^ b:Nat):Int):=u64_xor_nat s b hs (by omega)
   have HA:=ħ (show K6 s b=bits .xor .u64 (IntKind.u64.wrap (((s ^^^ b:Nat):Int) * 1099511628211)) (IntKind.u64.wrap (((s ^^^ b:Nat):Int) * 1099511628211) / 4294967296) by unfold K6;rw[hxi])
   clear hxi hxx hxs
   generalize s ^^^ b=y at *
   have hr:=z0P ((y:Int) * 1099511628211)
   have e9:IntKind.u64.wrap ((IntKind.u64.wrap ((y:Int) * 1099511628211)).tdiv 4294967296)=IntKind.u64.wrap ((y:Int) * 1099511628211) / 4294967296:=by
    generalize IntKind.u64.wrap ((y:Int) * 1099511628211)=z at *
    rw[Int.tdiv_eq_ediv_of_nonneg hr.1,IntKind.wrap_u64];omega
   have HE9:=ħ e9
   clear e9 hr
   go_wp2_with fail
   go_ret
   refine ⟨?_,Qp.out⟩
   rw[HA.out,←HE9.out]
   rfl
theorem z1d (s b:Int)(h0:0≤s)(h1:s<18446744073709551616)(hb0:0≤b)(hb1:b<256)(w:World) :
 Calls Tryz.prog 160 #[.int .u64 s,.int .u8 b] w fun e w'=>e=.returned (.int .u64 (K6 s b))∧Below w.heap.size w w':=by
 obtain ⟨n,rfl⟩:=Int.eq_ofNat_of_zero_le h0
 obtain ⟨m,rfl⟩:=Int.eq_ofNat_of_zero_le hb0
 exact z1h n m (by omega) (by omega) w
theorem z0C {s:Int}(h:0≤s∧s<18446744073709551616):∀ l:List Int,0≤l.foldl K6 s∧l.foldl K6 s<18446744073709551616
 | []=>h
 | a :: l=>z0C (z0V s a) l
theorem z1l (B:Nat→Prop)(A:Option Addr)(c:Nat)(s:Int)(l:List Int)(w:World)(hs:0≤s∧s<18446744073709551616)(h:Reads w B 1 A l.length (bys l))(hB:Bytes l)(hl:l.length≤1000000000) :
 Calls Tryz.prog 125 #[.int .u64 s,.slice A l.length c] w fun e w'=>e=.returned (.int .u64 (XL s l))∧Below w.heap.size w w':=by
 have pA:=h.plain (by omega)
 have HF:=ħ (show XL s l=(l.take l.length).foldl K6 s by rw[List.take_of_length_le (Nat.le_refl _)];rfl)
 have HB:=ħ hB
 have HR:=ħ (show Reads w (· < w.heap.size) 1 A l.length (bys l) from (h.old (by omega)).more (fun k hk=>hk.2))
 have HS:=ħ fun k=>z0C hs (l.take k)
 clear hB h hs
 go_enter Tryz.func125,Tryz.ntmps125
 go_wp2_with fail
 go_loopw [0,5] (fun vs vi wr=>∃ k:Nat,k≤l.length∧vi=ι k∧vs=.int .u64 ((l.take k).foldl K6 s)∧Below w.heap.size w wr) (fun _ i _=>l.length - (intOf i).toNat)
 case atStart=>exact ⟨0,by omega,rfl,rfl,Below.refl _ _⟩
 case round=>
  obtain ⟨k,hk,rfl,rfl,hbw⟩:=hrel
  have Qp:=ħ hbw
  clear hbw
  by_cases hlt:k<l.length
  ·have hlt':(k:Int)<l.length:=by omega
   have hix:=fun W=>z1v pA c k hlt W
   have hc:=z19 (HR.out.below Qp.out (fun k hk=>hk)) hlt
   have hr:=HB.out (gd l k) (by rw[qd hlt];exact List.getElem_mem hlt)
   have HSk:=ħ (show (l.take (k+1)).foldl K6 s=K6 ((l.take k).foldl K6 s) (gd l k) by rw[List.take_succ_eq_append_getElem hlt,List.foldl_append,qd hlt];rfl)
   have iw:=HS.out k
   generalize (l.take k).foldl K6 s=x at *
   generalize gd l k=y at *
   have HC:=ħ (z1d x y iw.1 iw.2 hr.1 hr.2 wr)
   clear iw hr
   go_wp2_with (go_at_call 160;((with_reducible refine HC.out.mono ?_);rintro e w1 ⟨rfl,hb⟩;have HB1:=ħ (Qp.out.trans (hb.mono Qp.out.size));clear hb))
   exact ⟨⟨k+1,by omega,by go_num,by rw[HSk.out],HB1.out⟩,by simp[intOf];omega⟩
  ·have hge:¬ ((k:Int)<l.length):=by omega
   have HK:=ħ (show k=l.length by omega)
   go_wp2_with fail
   go_ret
   rw[HF.out,←HK.out]
   exact ⟨rfl,Qp.out⟩
theorem z1U (B:Nat→Prop)(A:Option Addr)(c:Nat)(l:List Int)(w:World)(h:Reads w B 1 A l.length (bys l))(hB:Bytes l)(hl:l.length≤1000000000) :
 Calls Tryz.prog 82 #[.slice A l.length c] w fun e w'=>e=.returned (.int .u64 (XL vk l))∧Below w.heap.size w w':=by
 have z2d:=ħ (show Calls Tryz.prog 125 #[.int .u64 14695981039346656037,.slice A l.length c] w (fun e w'=>e=.returned (.int .u64 (XL vk l))∧Below w.heap.size w w') from z1l B A c 14695981039346656037 l w ⟨by omega,by omega⟩ h hB hl)
 clear h hB
 generalize XL vk l=r at *
 go_enter Tryz.func82,Tryz.ntmps82
 go_wp2_with (go_at_call 125;((with_reducible refine z2d.out.mono ?_);rintro e w1 ⟨rfl,hb⟩;have HB1:=ħ hb;clear hb))
 go_ret
 exact ⟨rfl,HB1.out⟩
end Go.Proofs.YtdhcjhfgibmhfaaGreatDoor
