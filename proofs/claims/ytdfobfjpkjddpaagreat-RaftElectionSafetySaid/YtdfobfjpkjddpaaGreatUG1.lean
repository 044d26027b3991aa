import Derived.Test.YtdfobfjpkjddpaaGreatUG0
import Derived.Laws.BitsAllLaws
import Derived.Lib.Zigzag
import Derived.Test.YtdfobfjpkjddpaaGreatProg
import Derived.IntWalk
set_option linter.unusedVariables false
set_option linter.unusedSimpArgs false
set_option maxRecDepth 10000
set_option maxHeartbeats 2000000
namespace Go.Wire
def encU (u:Nat):List Int:=if h:u<128 then [(u:Int)] else ((u % 128+128:Nat):Int) :: encU (u / 128)
termination_by u
decreasing_by omega
theorem encU_lt {u:Nat}(h:u<128):encU u=[(u:Int)]:=by rw[encU,dif_pos h]
theorem encU_ge {u:Nat}(h:¬ u<128):encU u=((u % 128+128:Nat):Int) :: encU (u / 128):=by rw[encU,dif_neg h]
theorem encU_len:∀ (k u:Nat),u<128 ^ (k+1)→(encU u).length≤k+1
 | 0,u,h=>by rw[encU_lt (by simpa using h)];simp
 | k+1,u,h=>by
  by_cases hu:u<128
  ·rw[encU_lt hu];simp
  ·rw[encU_ge hu]
   have:=encU_len k (u / 128) (by rw[Nat.pow_succ] at h;omega)
   simp only[List.length_cons];omega
theorem encU_len10 {u:Nat}(h:u<18446744073709551616):(encU u).length≤10:=encU_len 9 u (Nat.lt_of_lt_of_le h (by decide))
def zig (n:Int):Nat:=if 0≤n then (2 * n).toNat else (-2 * n - 1).toNat
def za (n:Int):List Int:=encU (zig n)
theorem zig_lt {n:Int}(h0:-9223372036854775808≤n)(h1:n<9223372036854775808):zig n<18446744073709551616:=by unfold zig;split <;> omega
theorem xor_ones (a:Nat)(ha:a<18446744073709551616):a ^^^ 18446744073709551615=18446744073709551615 - a:=by
 have h:(BitVec.ofNat 64 a ^^^ BitVec.allOnes 64).toNat=(~~~ BitVec.ofNat 64 a).toNat:=by rw[BitVec.xor_allOnes]
 rw[BitVec.toNat_xor,BitVec.toNat_not] at h
 simp only[BitVec.toNat_ofNat,BitVec.toNat_allOnes] at h
 rw[Nat.mod_eq_of_lt (by omega)] at h
 simpa using h
theorem zig_bits {n:Int}(h0:-9223372036854775808≤n)(h1:n<9223372036854775808) :
 bits .xor .u64 (IntKind.u64.wrap (IntKind.u64.wrap n * 2)) (IntKind.u64.wrap (n / 9223372036854775808))=((zig n:Nat):Int):=by
 rw[IntKind.wrap_u64,IntKind.wrap_u64,IntKind.wrap_u64]
 rw[u64_xor _ _ (by omega) (by omega) (by omega) (by omega)]
 unfold zig
 split
 ·rename_i h
  rw[show n / 9223372036854775808 % 18446744073709551616=0 by omega]
  rw[show (0:Int).toNat=0 from rfl,Nat.xor_zero]
  omega
 ·rename_i h
  rw[show n / 9223372036854775808 % 18446744073709551616=18446744073709551615 by omega]
  rw[show (18446744073709551615:Int).toNat=18446744073709551615 from rfl,xor_ones _ (by omega)]
  omega
theorem low_or (u:Nat):bits .or .u8 (IntKind.u8.wrap (u:Int)) 128=((u % 128+128:Nat):Int):=by
 rw[IntKind.wrap_u8',u8_or _ _ (by omega) (by omega) (by omega) (by omega)]
 rw[show ((u:Int) % 256).toNat=u % 256 by omega,show (128:Int).toNat=128 from rfl]
 have h:∀ x:Fin 256,x.val ||| 128=x.val % 128+128:=by decide +kernel
 have:=h ⟨u % 256,by omega⟩
 simp only at this
 rw[this]
 omega
theorem encI_len {n:Int}(h0:-9223372036854775808≤n)(h1:n<9223372036854775808):(za n).length≤10:=encU_len10 (zig_lt h0 h1)
theorem encI_small {n:Int}(h0:0≤n)(h1:n≤63):za n=[2 * n]:=by
 unfold za zig
 rw[if_pos h0,encU_lt (by omega)]
 congr 1;omega
def encIs (l:List Int):List Int:=za (l.length:Int) ++ l.flatMap za
def rdU:Nat→Nat→List Int→Int × Nat × List Int
 | _,_,[]=>(11,0,[])
 | i,u,b :: r=>if (i=9∧b≠1)∨(0<i∧b=0) then (2,0,[]) else if b<128 then (0,u+b.toNat * 128 ^ i,r) else rdU (i+1) (u+(b.toNat - 128) * 128 ^ i) r
def unzig (u:Nat):Int:=if u % 2=0 then ((u / 2:Nat):Int) else -((u / 2:Nat):Int) - 1
def rdI (l:List Int):Int × Int × List Int:=if (rdU 0 0 l).1=0 then (0,unzig (rdU 0 0 l).2.1,(rdU 0 0 l).2.2) else ((rdU 0 0 l).1,0,[])
def Bytes (l:List Int):Prop:=∀ b∈l,0≤b∧b<256
theorem rdU_nil (i u:Nat):rdU i u []=(11,0,[]):=by rw[rdU]
theorem rdU_bad {i u:Nat}{b:Int}{r:List Int}(h:(i=9∧b≠1)∨(0<i∧b=0)):rdU i u (b :: r)=(2,0,[]):=by rw[rdU,if_pos h]
theorem rdU_last {i u:Nat}{b:Int}{r:List Int}(h:¬ ((i=9∧b≠1)∨(0<i∧b=0)))(hb:b<128):rdU i u (b :: r)=(0,u+b.toNat * 128 ^ i,r):=by rw[rdU,if_neg h,if_pos hb]
theorem rdU_more {i u:Nat}{b:Int}{r:List Int}(h:¬ ((i=9∧b≠1)∨(0<i∧b=0)))(hb:¬ b<128):rdU i u (b :: r)=rdU (i+1) (u+(b.toNat - 128) * 128 ^ i) r:=by rw[rdU,if_neg h,if_neg hb]
theorem rdU_err:∀ (l:List Int) (i u:Nat),(rdU i u l).1=0∨(((rdU i u l).1=2∨(rdU i u l).1=11)∧(rdU i u l).2=(0,[]))
 | [],i,u=>by rw[rdU_nil];simp
 | b :: r,i,u=>by
  by_cases h:(i=9∧b≠1)∨(0<i∧b=0)
  ·rw[rdU_bad h];simp
  ·by_cases hb:b<128
   ·rw[rdU_last h hb];simp
   ·rw[rdU_more h hb];exact rdU_err r _ _
theorem rdI_err (l:List Int):(rdI l).1=0∨(((rdI l).1=2∨(rdI l).1=11)∧(rdI l).2=(0,[])):=by
 unfold rdI
 rcases rdU_err l 0 0 with h | ⟨h,_⟩
 ·rw[if_pos h];simp
 ·rw[if_neg (by omega)];simp[h]
theorem rdU_enc:∀ (v:Nat) (i acc:Nat) (r:List Int),i≤9→(0<i→0<v)→v<128 ^ (9 - i) * 2→rdU i acc (encU v ++ r)=(0,acc+v * 128 ^ i,r):=by
 intro v
 induction v using Nat.strongRecOn with
 | ind v ih=>
  intro i acc r hi h0 hv
  by_cases hl:v<128
  ·rw[encU_lt hl,List.cons_append,List.nil_append,rdU_last]
   ·simp
   ·rintro (⟨h9,h1⟩ | ⟨h1,h2⟩)
    ·subst h9
     simp at hv
     have:=h0 (by omega)
     apply h1;omega
    ·have:=h0 h1;omega
   ·omega
  ·rcases (show i=9∨i≤8 by omega) with h9 | h8
   ·subst h9;simp at hv;omega
   ·rw[encU_ge hl,List.cons_append,rdU_more]
    ·rw[ih (v / 128) (by omega) (i+1) _ r (by omega) (fun _=>by omega) ?_]
     ·refine Prod.ext rfl (Prod.ext ?_ rfl)
      simp only
      rw[show (((v % 128+128:Nat):Int)).toNat - 128=v % 128 by omega]
      have e:v * 128 ^ i=v % 128 * 128 ^ i+v / 128 * 128 ^ (i+1):=by
       rw[Nat.pow_succ,Nat.mul_comm (128 ^ i) 128,←Nat.mul_assoc,←Nat.add_mul]
       congr 1;omega
      omega
     ·have:128 ^ (9 - i)=128 ^ (9 - (i+1)) * 128:=by rw[←Nat.pow_succ];congr 1;omega
      rw[this] at hv;omega
    ·rintro (⟨h1,_⟩ | ⟨_,h2⟩) <;> omega
    ·omega
theorem unzig_zig (n:Int):unzig (zig n)=n:=by
 unfold unzig zig
 by_cases h:0≤n
 ·rw[if_pos h,if_pos (by omega)];omega
 ·rw[if_neg h,if_neg (by omega)];omega
theorem rdI_enc {n:Int}(h0:-9223372036854775808≤n)(h1:n<9223372036854775808)(r:List Int):rdI (za n ++ r)=(0,n,r):=by
 have h:=rdU_enc (zig n) 0 0 r (by omega) (by omega) (by have:=zig_lt h0 h1;simpa using this)
 unfold rdI za
 rw[h]
 simp[unzig_zig]
def rdL (l:List Int):Int × Int × List Int:=if (rdI l).1=0 then (if (rdI l).2.1<0 then (2,0,[]) else if ((rdI l).2.2.length:Int)<(rdI l).2.1 then (11,0,[]) else rdI l) else ((rdI l).1,0,[])
def readA:Nat→List Int→List Int→Int × List Int × List Int
 | 0,acc,l=>(0,acc,l)
 | k+1,acc,l=>if (rdI l).1=0 then readA k (acc ++ [(rdI l).2.1]) (rdI l).2.2 else ((rdI l).1,[],[])
def rdIs (l:List Int):Int × List Int × List Int:=if (rdL l).2.1=0 then ((rdL l).1,[],(rdL l).2.2) else readA (rdL l).2.1.toNat [] (rdL l).2.2
theorem rdL_err (l:List Int):(rdL l).1=0∨(((rdL l).1=2∨(rdL l).1=11)∧(rdL l).2=(0,[])):=by
 unfold rdL
 rcases rdI_err l with h | ⟨h,_⟩
 ·rw[if_pos h]
  split
  ·simp
  ·split
   ·simp
   ·exact .inl h
 ·rw[if_neg (by omega)];simp[h]
theorem readA_err:∀ (k:Nat) (acc l:List Int),(readA k acc l).1=0∨(((readA k acc l).1=2∨(readA k acc l).1=11)∧(readA k acc l).2=([],[]))
 | 0,acc,l=>by simp[readA]
 | k+1,acc,l=>by
  rw[readA]
  rcases rdI_err l with h | ⟨h,_⟩
  ·rw[if_pos h];exact readA_err k _ _
  ·rw[if_neg (by omega)];simp[h]
theorem rdIs_err (l:List Int):(rdIs l).1=0∨(((rdIs l).1=2∨(rdIs l).1=11)∧(rdIs l).2=([],[])):=by
 unfold rdIs
 rcases rdL_err l with h | ⟨h,h2⟩
 ·split
  ·exact .inl h
  ·exact readA_err _ _ _
 ·rw[h2];simp[h]
theorem Bytes.right {a b:List Int}(h:Bytes (a ++ b)):Bytes b:=fun x hx=>h x (by simp[hx])
def InR (l:List Int):Prop:=∀ x∈l,-9223372036854775808≤x∧x<9223372036854775808
theorem readA_enc:∀ (xs acc r:List Int),InR xs→readA xs.length acc (xs.flatMap za ++ r)=(0,acc ++ xs,r)
 | [],acc,r,_=>by simp[readA]
 | x :: xs,acc,r,h=>by
  have hx:=h x (by simp)
  rw[List.flatMap_cons,List.append_assoc,List.length_cons,readA,rdI_enc hx.1 hx.2,if_pos rfl]
  simp only
  rw[readA_enc xs _ r (fun y hy=>h y (by simp[hy]))]
  simp
theorem encU_pos (u:Nat):1≤(encU u).length:=by
 by_cases h:u<128
 ·rw[encU_lt h];simp
 ·rw[encU_ge h];simp
theorem flat_ge (xs:List Int):xs.length≤(xs.flatMap za).length:=by
 induction xs with
 | nil=>simp
 | cons a r ih=>
  have:=encU_pos (zig a)
  simp only[List.flatMap_cons,List.length_append,List.length_cons,za] at ih⊢
  omega
theorem rdIs_enc {xs:List Int}(h:InR xs)(hl:xs.length<9223372036854775808)(r:List Int):rdIs (encIs xs ++ r)=(0,xs,r):=by
 have e:rdI (encIs xs ++ r)=(0,(xs.length:Int),xs.flatMap za ++ r):=by
  unfold encIs
  rw[List.append_assoc]
  exact rdI_enc (by omega) (by omega) _
 have hL:rdL (encIs xs ++ r)=(0,(xs.length:Int),xs.flatMap za ++ r):=by
  unfold rdL
  rw[e]
  simp only
  have:=flat_ge xs
  rw[if_pos trivial,if_neg (by omega),if_neg (by rw[List.length_append];omega)]
 unfold rdIs
 rw[hL]
 simp only
 by_cases h0:(xs.length:Int)=0
 ·have:xs=[]:=List.eq_nil_of_length_eq_zero (by omega)
  subst this;simp
 ·rw[if_neg h0,Int.toNat_natCast,readA_enc xs [] r h];simp
end Go.Wire
namespace Go.Own
open Go.RowKit
theorem own_far {w:World}{base:Nat}{e:TypeId}{size n:Nat}{v:Value}{xs:List Value}(h:w.ownsRow base e size v n xs){p:Addr}(hp:p.block<base)(u:Value):(w.setCell p u).ownsRow base e size v n xs:=
 h.kept (row:=some p.block) ⟨rfl,rfl,rfl,by simp,fun k hk hne=>Below.heap_setCell w p u k (fun e=>hne (by rw[e]))⟩ (by
  cases hv:v.ownBlock with
  | none=>exact .inl rfl
  | some k=>right;intro e;cases e;have:=(h.lt _ hv).1;omega)
end Go.Own
namespace Go.Wire
theorem rdU_suf:∀ (l:List Int) (i u:Nat),∃ pre,l=pre ++ (rdU i u l).2.2
 | [],i,u=>⟨[],by rw[rdU_nil];rfl⟩
 | b :: r,i,u=>by
  by_cases h:(i=9∧b≠1)∨(0<i∧b=0)
  ·rw[rdU_bad h];exact ⟨b :: r,by simp⟩
  ·by_cases hb:b<128
   ·rw[rdU_last h hb];exact ⟨[b],rfl⟩
   ·rw[rdU_more h hb]
    obtain ⟨pre,e⟩:=rdU_suf r (i+1) (u+(b.toNat - 128) * 128 ^ i)
    exact ⟨b :: pre,by rw[List.cons_append,←e]⟩
theorem rdI_suf (l:List Int):∃ pre,l=pre ++ (rdI l).2.2:=by
 unfold rdI
 split
 ·exact rdU_suf l 0 0
 ·exact ⟨l,by simp⟩
theorem rdI_bytes {l:List Int}(h:Bytes l):Bytes (rdI l).2.2:=by
 obtain ⟨pre,e⟩:=rdI_suf l
 rw[e] at h
 exact h.right
theorem rdI_len (l:List Int):(rdI l).2.2.length≤l.length:=by
 obtain ⟨pre,e⟩:=rdI_suf l
 have:=congrArg List.length e
 rw[List.length_append] at this;omega
end Go.Wire
namespace Go.Proofs.YtdfobfjpkjddpaaGreat
open Go.RowKit Go.Own Go.Quo Go.Wire
theorem info5:(Tryz.prog.info? 5).map (fun i=>(i.zero,i.size,i.bytes))=some (some (.int .u8 0),1,1):=by kernel_rfl
abbrev bys (l:List Int):List Value:=l.map (Value.int .u8)
def WrP (w:World)(p:Nat)(out:List Int):Prop:=∃ A c,Blk w p 160 #[.slice A out.length c]∧w.ownsRow (p+1) 5 1 (.slice A out.length c) out.length (bys out)
theorem WrP.below {w w':World}{p:Nat}{out:List Int}(h:WrP w p out)(hb:Below w.heap.size w w'):WrP w' p out:=by
 obtain ⟨A,c,h1,h2⟩:=h
 exact ⟨A,c,h1.below hb h1.lt,h2.kept (row:=none) ⟨hb.os,hb.tape,hb.output,hb.size,fun k hk _=>hb.block k hk⟩ (by cases (Value.slice A out.length c).ownBlock <;> simp)⟩
theorem WrP.alloc {w:World}{p:Nat}{out:List Int}(h:WrP w p out)(o:Obj):WrP (w.alloc o) p out:=by
 obtain ⟨A,c,h1,h2⟩:=h
 exact ⟨A,c,h1.alloc o,h2.alloc o⟩
theorem WrP.new (w:World):WrP (w.alloc (.cells #[.slice none 0 0] 160)) w.heap.size []:=⟨none,0,Blk.new w 160 _,World.ownsRow_nil _ _ _ _⟩
theorem int_any (p:Nat)(n:Int)(out:List Int)(w:World)(hw:WrP w p out)(h0:-9223372036854775808≤n)(h1:n<9223372036854775808)(hl:out.length≤1000000000) :
 Calls Tryz.prog 117 #[.pointer (some ⟨p,0,none⟩),.int .i64 n] w (fun e w'=>e=.returned (.tuple #[])∧WrP w' p (out ++ za n)∧Below p w w'):=by
 have hz:=zig_bits h0 h1
 have hlen:=encI_len h0 h1
 have hzl:=zig_lt h0 h1
 have HE:=ħ (show za n=encU (zig n) from rfl)
 generalize za n=en at *
 go_enter Tryz.func117,Tryz.ntmps117
 go_wp2_with fail
 generalize zig n=z at *
 clear hz
 go_loopw [4] (fun vu wr=>∃ (u:Nat) (o:List Int),vu=.int .u64 u∧u<18446744073709551616∧WrP wr p o∧o ++ encU u=out ++ en∧Below p w wr) (fun u _=>(intOf u).toNat)
 case atStart=>exact ⟨z,out,rfl,hzl,hw,by rw[HE.out],Below.refl _ _⟩
 case round=>
  obtain ⟨u,o,rfl,hu,hwr,ho,hb⟩:=hrel
  have HO:=ħ ho
  have hol:o.length+(encU u).length≤out.length+en.length:=by rw[←List.length_append,←List.length_append,ho];exact Nat.le_refl _
  clear ho
  obtain ⟨A,c,hk,hown⟩:=hwr
  obtain ⟨q0,q1,q2⟩:=hk.facts
  by_cases h:u<128
  ·have h':¬ (128:Int)≤u:=by omega
   have hu8:IntKind.u8.wrap (u:Int)=u:=by rw[IntKind.wrap_u8'];omega
   go_wp2_with (at_builtin;refine wpList_append_any _ rfl _ _ _ rfl (p+1) 5 _ 1 1 Tryz.underlying46 info5 rfl (by omega) (.slice A o.length c) o.length (bys o) rfl (hown.alloc _) _ (some ⟨wr.heap.size,0,none⟩) 1 1 [.int .u8 u] rfl (Reads.newS _ [.int .u8 u] 5 (0,0) 1 1 rfl _ rfl) (by simp[Value.oneCell']) (by simp only[maxLen];omega) (by omega) (by simp;omega) ?_;intro A4 c4 w4 hown4 hgr4 hat4;have hk4:=(hk.alloc _).grown hgr4 (by intro e;have:=(hown.lt p e.symm).1;omega);obtain ⟨r0,r1,r2⟩:=hk4.facts)
   refine bodyPost_end (v:=.tuple #[]) (by simp[results,Tryz.results117,go_sem]) rfl ⟨rfl,?_,?_⟩
   ·rw[←HO.out,encU_lt h]
    refine ⟨A4,c4,?_,?_⟩
    ·have:=hk4.set_ 0 (.slice A4 (o.length+1) c4)
     simpa using this
    ·have:=own_far hown4 (p:=⟨p,0,none⟩) (by simp) (.slice A4 (o.length+1) c4)
     simpa using this
   ·exact ((hb.alloc (Nat.le_of_lt (Nat.lt_of_lt_of_le q0 (Nat.le_refl _))) _).grown hgr4 (by simp;omega) (fun g hg=>by have:=(hown.lt g hg).1;omega)).setCell (by simp) _
  ·have h':(128:Int)≤u:=by omega
   obtain ⟨lo,hlo⟩:∃ lo:Int,lo=((u % 128+128:Nat):Int):=⟨_,rfl⟩
   have hu8:bits .or .u8 ((u:Int) % 256) 128=lo:=by rw[hlo,←low_or u,IntKind.wrap_u8']
   have HLo:=ħ hlo;clear hlo
   go_wp2_with (at_builtin;refine wpList_append_any _ rfl _ _ _ rfl (p+1) 5 _ 1 1 Tryz.underlying46 info5 rfl (by omega) (.slice A o.length c) o.length (bys o) rfl (hown.alloc _) _ (some ⟨wr.heap.size,0,none⟩) 1 1 [.int .u8 lo] rfl (Reads.newS _ [.int .u8 lo] 5 (0,0) 1 1 rfl _ rfl) (by simp[Value.oneCell']) (by simp only[maxLen];omega) (by omega) (by simp;omega) ?_;intro A4 c4 w4 hown4 hgr4 hat4;have hk4:=(hk.alloc _).grown hgr4 (by intro e;have:=(hown.lt p e.symm).1;omega);obtain ⟨r0,r1,r2⟩:=hk4.facts)
   have hsh:(u:Int) / 128=((u / 128:Nat):Int):=by omega
   refine ⟨⟨u / 128,o ++ [lo],congrArg _ hsh,by omega,?_,?_,?_⟩,by simp[intOf];omega⟩
   ·refine ⟨A4,c4,?_,?_⟩
    ·have:=hk4.set_ 0 (.slice A4 (o.length+1) c4)
     simpa using this
    ·have:=own_far hown4 (p:=⟨p,0,none⟩) (by simp) (.slice A4 (o.length+1) c4)
     simpa using this
   ·rw[←HO.out,encU_ge h,HLo.out,List.append_assoc];rfl
   ·exact ((hb.alloc (Nat.le_of_lt (Nat.lt_of_lt_of_le q0 (Nat.le_refl _))) _).grown hgr4 (by simp;omega) (fun g hg=>by have:=(hown.lt g hg).1;omega)).setCell (by simp) _
theorem size5:(Tryz.prog.info? 5).map (·.size)=some 1:=by kernel_rfl
theorem bys_one (l:List Int):∀ v∈bys l,v.oneCell'=true:=ints_oneCell .u8 l
theorem encoded_cap (p:Nat)(out:List Int)(w:World)(hw:WrP w p out)(hl:out.length≤1000000000) :
 Calls Tryz.prog 107 #[.pointer (some ⟨p,0,none⟩)] w (fun e w'=>∃ A c,e=.returned (.slice A out.length c)∧Reads w' (w.heap.size≤·) 1 A out.length (bys out)∧Below w.heap.size w w'∧out.length≤c):=by
 obtain ⟨A,c,hk,hown⟩:=hw
 have hr:=Reads.of_own hown
 have hmk:=run_make1 (P:=Tryz.prog) 46 5 (.int .u8 0) 1 Tryz.underlying46 info5 rfl out.length (by omega) (by omega)
 have hcp1:=run_copy_new (P:=Tryz.prog) 46 46 3 5 Tryz.underlying46 size5 (c:=c) (d:=out.length) 5 (zrow (.int .u8 0) out.length) hr (bys_one out) (size_zrow _ _) w.heap.size rfl
 obtain ⟨q0,q1,q2⟩:=hk.facts
 clear hown hr
 go_enter Tryz.func107,Tryz.ntmps107
 go_wp2
 go_ret
 refine ⟨_,_,rfl,?_,(Below.refl _ _).alloc (Nat.le_refl _) _,Nat.le_refl _⟩
 have:=Reads.new w (bys out) 5 (0,0)
 simp only[List.length_map] at this
 exact this.more (fun k hk=>by omega)
def cutA (A:Option Addr)(c k:Nat):Option Addr:=if c=k then A else A.map (·.add k)
def RdP (w:World)(p:Nat)(B:Nat→Prop)(rest:List Int)(err:Int):Prop:=∃ A c,Blk w p 180 #[.slice A rest.length c,.int .i64 err]∧Reads w B 1 A rest.length (bys rest)∧rest.length≤c
theorem RdP.fr {w w':World}{p:Nat}{B S:Nat→Prop}{rest:List Int}{err:Int}(h:RdP w p B rest err)(hf:Fr S w w')(hp:¬ S p)(hS:∀ k,B k→¬ S k):RdP w' p B rest err:=by
 obtain ⟨A,c,h1,h2,h3⟩:=h
 exact ⟨A,c,h1.fr hf hp,h2.fr hf hS,h3⟩
theorem i5x:∃ i,Tryz.prog.info? 5=some i∧i.size=1:=by obtain ⟨i,h,_,h2,_⟩:=info_parts info5;exact ⟨i,h,h2⟩
theorem ix45 {A:Option Addr}{n:Nat}(hA:Plain A n)(c k:Nat)(hk:k<n)(w:World):(Instr.indexAt 46 (.slice A n c) (.int .i64 (k:Int))).run Tryz.prog w=.ok (.pointer (some ⟨bk A,ofs A+k,none⟩)) w:=by
 obtain ⟨i,h1,h2⟩:=i5x
 simpa using run_indexAt2 (P:=Tryz.prog) Tryz.underlying46 h1 h2 hA c k hk w
theorem run_cutB {A:Option Addr}{n c:Nat}(k:Nat)(hk:k≤n)(W:World) :
 (Instr.slice 46 (.slice A n c) (some (.int .i64 (k:Int))) none none).run Tryz.prog W=.ok (.slice (cutA A c k) (n - k) (c - k)) W:=by
 have hu:Tryz.prog.underlying 46=some (.slice (Tryz.prog.elem 46)):=by kernel_rfl
 have he:Tryz.prog.elem 46=5:=by kernel_rfl
 obtain ⟨i,h1,h2⟩:=i5x
 rw[run_slice_l W 46 A n c hu .i64 (k:Int) (by omega) (by omega),he]
 simp[sizeOf,typeInfo,h1,h2,sliced,cutA]
theorem run_cutB2 {A:Option Addr}{n c:Nat}(k:Nat)(hk:k≤n)(W:World) :
 (Instr.sliceAt 46 (.slice A n c) (some (.int .i64 (k:Int))) none none).run Tryz.prog W=.ok (.slice (cutA A c k) (n - k) (c - k)) W:=by
 have hu:Tryz.prog.underlying 46=some (.slice (Tryz.prog.elem 46)):=by kernel_rfl
 rw[run_sliceAt_slice W 46 _ _ _ _ hu]
 exact run_cutB k hk W
theorem Reads.cutB {w:World}{B:Nat→Prop}{A:Option Addr}{l:List Int}(h:Reads w B 1 A l.length (bys l)){k c:Nat}(hk:k≤l.length)(hc:l.length≤c):Reads w B 1 (cutA A c k) (l.drop k).length (bys (l.drop k)):=by
 have:=Reads.cut h hk hc
 simp only[Nat.mul_one] at this
 rw[List.length_drop,bys,List.map_drop]
 exact this
theorem fail_any (p:Nat)(B:Nat→Prop)(rest:List Int)(err e':Int)(w:World)(h:RdP w p B rest err) :
 Calls Tryz.prog 125 #[.pointer (some ⟨p,0,none⟩),.int .i64 e'] w fun e w'=>e=.returned (.tuple #[])∧RdP w' p B [] e'∧Fr (·=p) w w':=by
 obtain ⟨A,c,hk,hr,hc⟩:=h
 obtain ⟨q0,q1,q2⟩:=hk.facts
 go_enter Tryz.func125,Tryz.ntmps125
 go_wp2
 refine bodyPost_end (v:=.tuple #[]) (by simp[results,Tryz.results125,go_sem]) rfl ⟨rfl,⟨none,0,?_,Reads.none_,by simp⟩,((Fr.refl (fun x=>x=p) _).setCell (.inl rfl) _).setCell (.inl rfl) _⟩
 simpa using (hk.set_ 1 (.int .i64 e')).set_ 0 (.slice none 0 0)
theorem next_some (p:Nat)(B:Nat→Prop)(b:Int)(rest:List Int)(w:World)(h:RdP w p B (b :: rest) 0)(hp:¬ B p) :
 Calls Tryz.prog 124 #[.pointer (some ⟨p,0,none⟩)] w fun e w'=>e=.returned (.tuple #[.int .u8 b,.bool true])∧RdP w' p B rest 0∧Fr (·=p) w w':=by
 obtain ⟨A,c,hk,hr,hc⟩:=h
 obtain ⟨q0,q1,q2⟩:=hk.facts
 have pA:=hr.plain (by omega)
 have hlen:(b :: rest).length=rest.length+1:=rfl
 rw[hlen] at q1
 have hix:∀ W:World,(Instr.indexAt 46 (.slice A (rest.length+1) c) (.int .i64 0)).run Tryz.prog W=.ok (.pointer (some ⟨bk A,ofs A,none⟩)) W:=fun W=>ix45 pA c 0 (by simp) W
 have hcell:w.cell? ⟨bk A,ofs A,none⟩=some (.int .u8 b):=by
  have:=hr.cell2 0 (by simp) (by omega)
  simpa [bys] using this
 have hcut:∀ W:World,(Instr.slice 46 (.slice A (rest.length+1) c) (some (.int .i64 1)) none none).run Tryz.prog W=.ok (.slice (cutA A c 1) rest.length (c - 1)) W:=fun W=>by
  simpa using run_cutB (A:=A) (n:=rest.length+1) (c:=c) 1 (by omega) W
 have hcut2:∀ W:World,(Instr.sliceAt 46 (.slice A (rest.length+1) c) (some (.int .i64 1)) none none).run Tryz.prog W=.ok (.slice (cutA A c 1) rest.length (c - 1)) W:=fun W=>by
  simpa using run_cutB2 (A:=A) (n:=rest.length+1) (c:=c) 1 (by omega) W
 have hne:((rest.length:Int)+1 == 0)=false:=by simp;omega
 go_enter Tryz.func124,Tryz.ntmps124
 go_wp2
 refine bodyPost_ret (v:=.tuple #[.int .u8 b,.bool true]) (by simp[results,Tryz.results124,go_sem]) rfl ⟨rfl,⟨cutA A c 1,c - 1,?_,?_,by simp at hc;omega⟩,(Fr.refl (fun x=>x=p) _).setCell (.inl rfl) _⟩
 ·simpa using hk.set_ 0 (.slice (cutA A c 1) rest.length (c - 1))
 ·have:=Reads.cutB hr (k:=1) (by simp) hc
  exact (show Reads w B 1 (cutA A c 1) rest.length (bys rest) from this).setCell (by simpa using hp) _
theorem next_none (p:Nat)(B:Nat→Prop)(w:World)(h:RdP w p B [] 0) :
 Calls Tryz.prog 124 #[.pointer (some ⟨p,0,none⟩)] w fun e w'=>e=.returned (.tuple #[.int .u8 0,.bool false])∧RdP w' p B [] 11∧Fr (·=p) w w':=by
 have HF:=ħ (fail_any p B [] 0 11 w h)
 obtain ⟨A,c,hk,hr,hc⟩:=h
 obtain ⟨q0,q1,q2⟩:=hk.facts
 simp only[List.length_nil] at q1
 go_enter Tryz.func124,Tryz.ntmps124
 go_wp2_with (go_at_call 125;((with_reducible refine HF.out.mono ?_);rintro e w1 ⟨rfl,h1,h2⟩))
 exact bodyPost_ret (v:=.tuple #[.int .u8 0,.bool false]) (by simp[results,Tryz.results124,go_sem]) rfl ⟨rfl,h1,h2⟩
theorem next_err (p:Nat)(B:Nat→Prop)(rest:List Int)(err:Int)(w:World)(h:RdP w p B rest err)(he:err≠0) :
 Calls Tryz.prog 124 #[.pointer (some ⟨p,0,none⟩)] w fun e w'=>e=.returned (.tuple #[.int .u8 0,.bool false])∧w=w':=by
 obtain ⟨A,c,hk,hr,hc⟩:=h
 obtain ⟨q0,q1,q2⟩:=hk.facts
 have heb:(err == 0)=false:=by simpa using he
 go_enter Tryz.func124,Tryz.ntmps124
 go_wp2
 exact bodyPost_ret (v:=.tuple #[.int .u8 0,.bool false]) (by simp[results,Tryz.results124,go_sem]) rfl ⟨rfl,rfl⟩
theorem int_err (p:Nat)(B:Nat→Prop)(rest:List Int)(err:Int)(w:World)(h:RdP w p B rest err)(he:err≠0) :
 Calls Tryz.prog 92 #[.pointer (some ⟨p,0,none⟩)] w fun e w'=>e=.returned (.int .i64 0)∧w=w':=by
 have HN:=ħ (next_err p B rest err w h he)
 clear h he
 go_enter Tryz.func92,Tryz.ntmps92
 go_wp2_with fail
 go_loopw [3,7] (fun vu vi wr=>vi=.int .i64 0∧vu=.int .u64 0∧wr=w) (fun _ _ _=>0)
 case atStart=>exact ⟨rfl,rfl,rfl⟩
 case round=>
  obtain ⟨rfl,rfl,rfl⟩:=hrel
  go_wp2_with (go_at_call 124;((with_reducible refine HN.out.mono ?_);rintro e w1 ⟨rfl,rfl⟩))
  go_ret
  exact ⟨rfl,rfl⟩
theorem and127 {b:Int}(h0:0≤b)(h1:b<256):bits .and .u8 b 127=((b.toNat % 128:Nat):Int):=by
 rw[u8_and _ _ h0 (by omega) (by omega) (by omega),show (127:Int).toNat=127 from rfl,nat_mask7]
theorem pow7 (i:Nat):(2:Nat) ^ (7 * i)=128 ^ i:=by rw[Nat.pow_mul]
theorem or_lt {i u:Nat}{b:Int}(hu:u<128 ^ i)(h0:0≤b)(h1:b<256)(hi:i≤8∨(i=9∧b=1)):u+(b.toNat % 128) * 128 ^ i<18446744073709551616:=by
 rcases hi with hi | ⟨rfl,rfl⟩
 ·have:128 ^ i≤128 ^ 8:=Nat.pow_le_pow_right (by decide) hi
  have h7:b.toNat % 128≤127:=by omega
  have:=Nat.mul_le_mul_right (128 ^ i) h7
  have e:(128:Nat) ^ 8=72057594037927936:=by decide
  omega
 ·have e:(128:Nat) ^ 9=9223372036854775808:=by decide
  rw[e] at hu⊢
  have:(1:Int).toNat % 128=1:=rfl
  rw[this];omega
theorem or_step {i u:Nat}{b:Int}(hu:u<128 ^ i)(h0:0≤b)(h1:b<256)(hi:i≤8∨(i=9∧b=1)) :
 bits .or .u64 (u:Int) (IntKind.u64.wrap (IntKind.u64.wrap (bits .and .u8 b 127) * 2 ^ (7 * i)))=((u+(b.toNat % 128) * 128 ^ i:Nat):Int):=by
 have hlt:=or_lt hu h0 h1 hi
 rw[and127 h0 h1,IntKind.wrap_u64,IntKind.wrap_u64]
 have e1:((b.toNat % 128:Nat):Int) % 18446744073709551616=((b.toNat % 128:Nat):Int):=by omega
 rw[e1]
 have e2:((b.toNat % 128:Nat):Int) * 2 ^ (7 * i)=(((b.toNat % 128) * 128 ^ i:Nat):Int):=by
  rw[←pow7];simp
 rw[e2,show (((b.toNat % 128) * 128 ^ i:Nat):Int) % 18446744073709551616=(((b.toNat % 128) * 128 ^ i:Nat):Int) by omega]
 rw[u64_or_nat _ _ (by omega) (by omega),Nat.or_comm,nat_join (7 * i) _ _ (by rw[pow7];exact Nat.mul_mod_left _ _) (by rw[pow7];exact hu),Nat.add_comm]
theorem xor_zero_i64 {x:Int}(h0:0≤x)(h1:x<9223372036854775808):bits .xor .i64 x 0=x:=by
 show IntKind.i64.wrap ((BitVec.ofInt 64 x ^^^ BitVec.ofInt 64 0).toNat:Int)=_
 have h2:(BitVec.ofInt 64 x).toNat=x.toNat:=by
  rw[BitVec.toNat_ofInt]
  have:((2 ^ 64:Nat):Int)=18446744073709551616:=by decide
  rw[this];omega
 rw[show BitVec.ofInt 64 0=0#64 from rfl,BitVec.xor_zero,h2,IntKind.wrap_i64]
 omega
theorem bits_xor_comm (k:IntKind)(x y:Int):bits .xor k x y=bits .xor k y x:=by
 show IntKind.wrap k ((BitVec.ofInt k.bits x ^^^ BitVec.ofInt k.bits y).toNat:Int)=IntKind.wrap k ((BitVec.ofInt k.bits y ^^^ BitVec.ofInt k.bits x).toNat:Int)
 rw[BitVec.xor_comm]
theorem wrap64_in {x:Int}(h0:-9223372036854775808≤x)(h1:x<9223372036854775808):wrap64 x=x:=by
 unfold wrap64;omega
theorem unzig_bits {U:Nat}(h:U<18446744073709551616):bits .xor .i64 (wrap64 ((U:Int) / 2)) (wrap64 (-wrap64 (bits .and .u64 (U:Int) 1)))=unzig U:=by
 rw[Lib.u64_and1 _ (by omega) (by omega)]
 rw[wrap64_in (x:=(U:Int) / 2) (by omega) (by omega),wrap64_in (x:=(U:Int) % 2) (by omega) (by omega),wrap64_in (x:=-((U:Int) % 2)) (by omega) (by omega)]
 unfold unzig
 by_cases h2:U % 2=0
 ·rw[if_pos h2,show -((U:Int) % 2)=0 by omega,xor_zero_i64 (by omega) (by omega)];omega
 ·rw[if_neg h2,show -((U:Int) % 2) = -1 by omega,bits_xor_comm,show (U:Int) / 2=((U / 2:Nat):Int) by omega,Lib.i64_not _ (by omega)]
theorem int_ok (p:Nat)(B:Nat→Prop)(rest:List Int)(w:World)(h:RdP w p B rest 0)(hp:¬ B p)(hB:Bytes rest) :
 Calls Tryz.prog 92 #[.pointer (some ⟨p,0,none⟩)] w fun e w'=>e=.returned (.int .i64 (rdI rest).2.1)∧RdP w' p B (rdI rest).2.2 (rdI rest).1∧Fr (·=p) w w':=by
 have HI:=ħ (show rdI rest=if (rdU 0 0 rest).1=0 then (0,unzig (rdU 0 0 rest).2.1,(rdU 0 0 rest).2.2) else ((rdU 0 0 rest).1,0,[]) from rfl)
 generalize rdI rest=RI0 at *
 have HB:=ħ hB
 clear hB
 go_enter Tryz.func92,Tryz.ntmps92
 go_wp2_with fail
 go_loopw [3,7] (fun vu vi wr=>∃ (i u:Nat) (r:List Int),i≤9∧vi=.int .i64 i∧vu=.int .u64 u∧u<128 ^ i∧rdU i u r=rdU 0 0 rest∧Bytes r∧RdP wr p B r 0∧Fr (fun x=>x=p) w wr) (fun _ i _=>10 - (intOf i).toNat)
 case atStart=>exact ⟨0,0,rest,by omega,rfl,rfl,by simp,rfl,HB.out,h,Fr.refl _ _⟩
 case round=>
  obtain ⟨i,u,r,hi,rfl,rfl,hu,hru,hBr,hrd,hfr⟩:=hrel
  have HU:=ħ hu
  have HR:=ħ hru
  have HBr:=ħ hBr
  clear hu hru hBr h
  have hi':(i:Int)<10:=by omega
  cases r with
  | nil=>
   have HN:=ħ (next_none p B wr hrd)
   have HE:=ħ (show RI0=(11,0,[]) by rw[HI.out,←HR.out,rdU_nil];rfl)
   clear hrd
   go_wp2_with (go_at_call 124;((with_reducible refine HN.out.mono ?_);rintro e w1 ⟨rfl,h1,h2⟩))
   go_ret
   rw[HE.out]
   exact ⟨rfl,h1,hfr.trans h2⟩
  | cons b r=>
   have HN:=ħ (next_some p B b r wr hrd hp)
   have hb0:=(HBr.out b (by simp)).1
   have hb1:=(HBr.out b (by simp)).2
   clear hrd
   by_cases hbad:(i=9∧b≠1)∨(0<i∧b=0)
   ·have HE:=ħ (show RI0=(2,0,[]) by rw[HI.out,←HR.out,rdU_bad hbad];rfl)
    have HF:=ħ fun W' (x:RdP W' p B r 0)=>fail_any p B r 0 2 W' x
    have hcs:((i:Int) == 9)=true∧(b == 1)=false∧b≠1∨(((i:Int) == 9)=false∧decide ((0:Int)<i)=true∧(b == 0)=true∧0<i):=by
     rcases hbad with ⟨h1,h2⟩ | ⟨h1,h2⟩
     ·left;exact ⟨by simpa using (show (i:Int)=9 by omega),by simpa using h2,h2⟩
     ·by_cases h9:i=9
      ·left;exact ⟨by simpa using (show (i:Int)=9 by omega),by simp;omega,by omega⟩
      ·right;exact ⟨by simp;omega,by simpa using h1,by simpa using h2,h1⟩
    clear hbad
    rcases hcs with ⟨x1,x2,x2'⟩ | ⟨x1,x2,x3,x4⟩
    all_goals
     go_wp2_with (first
      | (go_at_call 124;((with_reducible refine HN.out.mono ?_);rintro e w1 ⟨rfl,h1,h2⟩;have HF1:=ħ (HF.out w1 h1)))
      | (go_at_call 125;((with_reducible refine HF1.out.mono ?_);rintro e w2 ⟨rfl,h3,h4⟩)))
     go_ret
     rw[HE.out]
     exact ⟨rfl,h3,(hfr.trans h2).trans h4⟩
   ·obtain ⟨U,hU⟩:∃ U:Nat,U=u+(b.toNat % 128) * 128 ^ i:=⟨_,rfl⟩
    have hi9:i≤8∨(i=9∧b=1):=by omega
    have hor:=or_step HU.out hb0 hb1 hi9
    rw[←hU] at hor
    have hU64:=or_lt HU.out hb0 hb1 hi9
    rw[←hU] at hU64
    have HUu:=ħ hU
    have hxor:=unzig_bits hU64
    rw[wrap64_in (x:=(U:Int) / 2) (by omega) (by omega)] at hxor
    have HBd:=ħ hbad
    have hcs:(((i:Int) == 9)=true∧b=1∧0<i)∨(((i:Int) == 9)=false∧0<i∧(b == 0)=false)∨(((i:Int) == 9)=false∧¬ 0<i):=by
     by_cases h9:i=9
     ·left;exact ⟨by simpa using (show (i:Int)=9 by omega),by omega,by omega⟩
     ·by_cases h0:0<i
      ·right;left;exact ⟨by simp;omega,h0,by simp;omega⟩
      ·right;right;exact ⟨by simp;omega,h0⟩
    clear hbad hU hi9
    by_cases hlt:b<128
    ·have HE:=ħ (show RI0=(0,unzig U,r) by rw[HI.out,←HR.out,rdU_last HBd.out hlt,HUu.out,show b.toNat % 128=b.toNat by omega];rfl)
     rcases hcs with ⟨x1,rfl,x3⟩ | ⟨x1,x2,x3⟩ | ⟨x1,x2⟩
     all_goals
      go_wp2_with (first
       | (go_at_call 124;((with_reducible refine HN.out.mono ?_);rintro e w1 ⟨rfl,h1,h2⟩)))
      go_ret
      rw[HE.out]
      exact ⟨rfl,h1,hfr.trans h2⟩
    ·have HE:=ħ (show rdU (i+1) U r=rdU 0 0 rest by rw[←HR.out,rdU_more HBd.out hlt,HUu.out,show b.toNat % 128=b.toNat - 128 by omega])
     have hge:¬ b<128:=hlt
     rcases hcs with ⟨x1,rfl,x3⟩ | ⟨x1,x2,x3⟩ | ⟨x1,x2⟩
     ·omega
     all_goals
      have hi8:i≤8:=by simp at x1;omega
      have HU8:=ħ (show U<128 ^ (i+1) by
       rw[HUu.out,Nat.pow_succ]
       have h7:b.toNat % 128≤127:=by omega
       have:=Nat.mul_le_mul_right (128 ^ i) h7
       have:=HU.out
       omega)
      go_wp2_with (first
       | (go_at_call 124;((with_reducible refine HN.out.mono ?_);rintro e w1 ⟨rfl,h1,h2⟩)))
      exact ⟨⟨i+1,U,r,by omega,by go_num,rfl,HU8.out,HE.out,fun x hx=>HBr.out x (by simp[hx]),h1,hfr.trans h2⟩,by simp[intOf];omega⟩
theorem finish_any (p:Nat)(B:Nat→Prop)(rest:List Int)(err:Int)(w:World)(h:RdP w p B rest err) :
 Calls Tryz.prog 93 #[.pointer (some ⟨p,0,none⟩)] w fun e w'=>e=.returned (.int .i64 (if err=0 then (if rest.length=0 then 0 else 2) else err))∧w=w':=by
 obtain ⟨A1,c1,hk1,hr1,hc1⟩:=h
 obtain ⟨q0,q1,q2⟩:=hk1.facts
 by_cases h0:err=0
 ·subst h0
  by_cases hl:rest.length=0
  ·rw[if_pos rfl,if_pos hl]
   have hl':¬ (0:Int)<rest.length:=by omega
   have HL:=ħ hl
   clear hl
   go_enter Tryz.func93,Tryz.ntmps93
   go_wp2
   go_ret
   exact ⟨rfl,rfl⟩
  ·rw[if_pos rfl,if_neg hl]
   have hl':(0:Int)<rest.length:=by omega
   go_enter Tryz.func93,Tryz.ntmps93
   go_wp2
   go_ret
   exact ⟨rfl,rfl⟩
 ·rw[if_neg h0]
  have heb:(err == 0)=false:=by simpa using h0
  clear h0
  go_enter Tryz.func93,Tryz.ntmps93
  go_wp2
  go_ret
  exact ⟨rfl,rfl⟩
theorem newReader_any (B:Nat→Prop)(A:Option Addr)(c:Nat)(l:List Int)(w:World)(h:Reads w B 1 A l.length (bys l))(hl:l.length≤1000000000) :
 Calls Tryz.prog 91 #[.slice A l.length c] w fun e w'=>e=.returned (.pointer (some ⟨w.heap.size+1,0,none⟩))∧RdP w' (w.heap.size+1) (·=w.heap.size) l 0∧Below w.heap.size w w':=by
 have hmk:=run_make1 (P:=Tryz.prog) 46 5 (.int .u8 0) 1 Tryz.underlying46 info5 rfl l.length (by omega) (by omega)
 have hcp1:=run_copy_new (P:=Tryz.prog) 46 46 3 5 Tryz.underlying46 size5 (c:=c) (d:=l.length) 5 (zrow (.int .u8 0) l.length) h (bys_one l) (size_zrow _ _) w.heap.size rfl
 go_enter Tryz.func91,Tryz.ntmps91
 go_wp2
 go_ret
 refine ⟨rfl,⟨some ⟨w.heap.size,0,none⟩,l.length,by simpa using Blk.new (w.alloc (.cells (bys l).toArray 5)) 180 #[.slice (some ⟨w.heap.size,0,none⟩) l.length l.length,.int .i64 0],?_,Nat.le_refl _⟩,((Below.refl _ _).alloc (Nat.le_refl _) _).alloc (by simp) _⟩
 have:=Reads.new w (bys l) 5 (0,0)
 simp only[List.length_map] at this
 exact this.alloc _
end Go.Proofs.YtdfobfjpkjddpaaGreat
