import Derived.Test.YtdhcjhfgibmhfaaGreatDoorJG1
import Derived.Test.YtdhcjhfgibmhfaaGreatDoorJG2
import Derived.Deep.Onto
import Derived.Laws.ResultCell
import Derived.Deep.Cut
import Derived.Deep.CutBlock
import Derived.Deep.DeepCutAuto
set_option linter.unusedVariables false
set_option linter.unusedSimpArgs false
set_option maxRecDepth 10000
set_option maxHeartbeats 4000000
namespace Go.Inc
open Go.Quo
def zT (a b:List Int):List Int:=a.filter (fun n=>hasB b n)
def qV (x:Ic)(c:Cr):Ic:=
 { x with
  urg:=if c.urg<x.urg then c.urg else x.urg
  code:=if c.urg<x.urg then c.code else x.code
  nodes:=if 0<(zT x.nodes c.nodes).length then zT x.nodes c.nodes else x.nodes
  since:=min x.since c.since
  calls:=x.calls ++ [c.call] }
def Qa (x:Ic)(c:Cr):Ic:={ x with urg:=c.urg,code:=c.code,nodes:=c.nodes,since:=c.since,calls:=[c.call] }
def Q9 (l:List Int)(n:Int):Nat:=(l.takeWhile (fun a=>decide (a<n))).length
def yF (l:List Int)(n:Int):List Int:=l.take (Q9 l n) ++ n :: l.drop (Q9 l n)
theorem j4 {l:List Int}{lo hi:Int}:qf l lo hi=true↔l.Pairwise (fun a b=>a<b)∧∀ n∈l,lo≤n∧n≤hi:=by
 constructor
 ·intro h
  refine ⟨?_,fun n hn=>?_⟩
  ·rw[List.pairwise_iff_getElem]
   intro i j hi hj hij
   have:=aR h i j hij hj
   rw[qd hi,qd hj] at this
   exact this
  ·obtain ⟨i,hi,rfl⟩:=List.mem_iff_getElem.1 hn
   have:=kW h hi
   rw[qd hi] at this
   exact this
 ·rintro ⟨h1,h2⟩
  rw[Zl]
  intro i hi
  have h3:=h2 _ (List.getElem_mem hi)
  unfold qE
  rw[qd hi]
  simp only[Bool.and_eq_true,Bool.or_eq_true,decide_eq_true_eq]
  refine ⟨h3,?_⟩
  by_cases h0:i=0
  ·exact .inl h0
  ·right
   rw[qd (by omega)]
   exact (List.pairwise_iff_getElem.1 h1) (i - 1) i (by omega) hi (by omega)
theorem XZ {l k:List Int}{lo hi:Int}(h:qf l lo hi=true)(hs:k.Sublist l):qf k lo hi=true:=by
 rw[j4] at h⊢
 exact ⟨h.1.sublist hs,fun n hn=>h.2 n (hs.mem hn)⟩
theorem QI (a b:List Int):(zT a b).Sublist a:=List.filter_sublist
theorem Qx {l:List Int}(h:qf l 0 4095=true):(zA l).map (fun n:Nat=>(n:Int))=l:=by
 have h2:=(j4.1 h).2
 unfold zA
 rw[List.filter_eq_self.2 (fun n hn=>by have:=h2 n hn;simp;omega),List.map_map]
 conv=>rhs;rw[←List.map_id l]
 refine List.map_congr_left (fun n hn=>?_)
 have:=h2 n hn
 simp only[Function.comp_apply,id_eq]
 omega
theorem uB {l:List Int}(h:qf l 0 4095=true):(zA l).Pairwise (fun a b=>a<b):=by
 have h1:=(j4.1 h).1
 have e:=Qx h
 rw[←e,List.pairwise_map] at h1
 exact h1.imp (fun h=>by omega)
theorem JH {l:List Int}(h:qf l 0 4095=true)(n:Nat):n∈zA l↔(n:Int)∈l:=by
 have e:=Qx h
 constructor
 ·intro hn;rw[←e];exact List.mem_map_of_mem hn
 ·intro hn
  rw[←e] at hn
  obtain ⟨m,hm,Pn⟩:=List.mem_map.1 hn
  have:m=n:=by omega
  exact this ▸ hm
def Dl (a b:List Int):List Int:=(Yh (Zq (Qi (zA a)) (Qi (zA b)))).map (fun n:Nat=>(n:Int))
theorem vG {a b:List Int}(ha:qf a 0 4095=true)(hb:qf b 0 4095=true):Dl a b=zT a b:=by
 unfold Dl
 rw[DV (uB ha) zV zV]
 have e:=Qx ha
 have e2:zT a b=((zA a).map (fun n:Nat=>(n:Int))).filter (fun n=>hasB b n):=by rw[e];rfl
 rw[e2,List.filter_map]
 congr 1
 refine List.filter_congr (fun n _=>?_)
 unfold hasB
 rw[Bool.eq_iff_iff,decide_eq_true_eq,JH hb]
 simp
def UD (a b:Cr):Prop:=a.since<b.since∨a.since=b.since∧a.call≤b.call
def Xg (a b:Cr):Prop:=a.since<b.since∨a.since=b.since∧a.call<b.call
instance (a b:Cr):Decidable (Xg a b):=by unfold Xg;infer_instance
theorem uT {a b:Cr}:¬ Xg a b↔UD b a:=by unfold Xg UD;omega
def Vr (l:List Cr)(t:Cr):Nat:=(l.takeWhile (fun a=>decide (Xg a t))).length
def QZ (l:List Cr)(t:Cr):List Cr:=l.take (Vr l t) ++ t :: l.drop (Vr l t)
def jQ (l:List Cr):List Cr:=l.foldl QZ []
theorem dw_head {α:Type}(p:α→Bool):∀ (l:List α) (x:α) (r:List α),l.dropWhile p=x :: r→p x=false
 | [],x,r,h=>by simp at h
 | a :: l,x,r,h=>by
  rw[List.dropWhile_cons] at h
  by_cases ha:p a=true
  ·rw[if_pos ha] at h;exact dw_head p l x r h
  ·rw[if_neg ha] at h
   injection h with h1 h2
   subst h1;simpa using ha
theorem UV {α:Type}{p:α→Bool}:∀ {l:List α} {x:α},x∈l.takeWhile p→p x=true
 | [],x,h=>by simp at h
 | a :: l,x,h=>by
  rw[List.takeWhile_cons] at h
  by_cases ha:p a=true
  ·rw[if_pos ha] at h
   rcases List.mem_cons.1 h with rfl | h
   ·exact ha
   ·exact UV h
  ·rw[if_neg ha] at h;simp at h
theorem Dp {α:Type}(p:α→Bool)(l:List α):l.take (l.takeWhile p).length=l.takeWhile p:=by
 conv=>lhs;arg 2;rw[←List.takeWhile_append_dropWhile (p:=p) (l:=l)]
 rw[List.take_left'];rfl
theorem Ux {α:Type}(p:α→Bool)(l:List α):l.drop (l.takeWhile p).length=l.dropWhile p:=by
 conv=>lhs;arg 2;rw[←List.takeWhile_append_dropWhile (p:=p) (l:=l)]
 rw[List.drop_left'];rfl
theorem FZ (l:List Cr)(t:Cr):(QZ l t).Perm (l ++ [t]):=by
 unfold QZ
 refine List.perm_middle.trans ?_
 rw[List.take_append_drop]
 exact (List.perm_append_singleton t l).symm
theorem xH {l:List Cr}(h:l.Pairwise UD)(t:Cr):(QZ l t).Pairwise UD:=by
 unfold QZ Vr
 rw[Dp,Ux]
 rw[List.pairwise_append,List.pairwise_cons]
 have h1:=h
 rw[←List.takeWhile_append_dropWhile (p:=fun a=>decide (Xg a t)) (l:=l),List.pairwise_append] at h1
 have hd:∀ b∈l.dropWhile (fun a=>decide (Xg a t)),UD t b:=by
  intro b hb
  cases hc:l.dropWhile (fun a=>decide (Xg a t)) with
  | nil=>rw[hc] at hb;simp at hb
  | cons x r=>
   have hx:¬ Xg x t:=by
    have:=dw_head _ l x r hc
    simpa using this
   rw[hc] at hb
   have hx2:=uT.1 hx
   rcases List.mem_cons.1 hb with rfl | hb
   ·exact hx2
   ·have h2:=h1.2.1
    rw[hc,List.pairwise_cons] at h2
    have h3:=h2.1 b hb
    unfold UD at *;omega
 refine ⟨h1.1,⟨hd,h1.2.1⟩,?_⟩
 intro a ha b hb
 rcases List.mem_cons.1 hb with rfl | hb
 ·have:=UV ha
  simp only[decide_eq_true_eq] at this
  unfold Xg at this;unfold UD;omega
 ·exact h1.2.2 a ha b hb
theorem Jd:∀ (l a:List Cr),a.Pairwise UD→(l.foldl QZ a).Pairwise UD∧(l.foldl QZ a).Perm (a ++ l)
 | [],a,h=>⟨h,by simp⟩
 | c :: r,a,h=>by
  obtain ⟨h1,h2⟩:=Jd r (QZ a c) (xH h c)
  refine ⟨h1,h2.trans ?_⟩
  have:=(FZ a c).append_right r
  simpa using this
theorem Z9 (l:List Cr):(jQ l).Pairwise UD:=(Jd l [] List.Pairwise.nil).1
theorem yo (l:List Cr):(jQ l).Perm l:=by
 have:=(Jd l [] List.Pairwise.nil).2
 rw[List.nil_append] at this;exact this
theorem UK {l s:List Cr}(hd:(l.map (·.call)).Nodup)(hp:s.Perm l)(hs:s.Pairwise UD):s=jQ l:=by
 refine List.Perm.eq_of_pairwise (le:=UD) (fun a b ha hb h1 h2=>?_) hs (Z9 l) (hp.trans (yo l).symm)
 have hc:a.call=b.call:=by unfold UD at h1 h2;omega
 exact Own.inj_of_nodup_map (fun c:Cr=>c.call) hd (hp.mem_iff.1 ha) ((yo l).mem_iff.1 hb) hc
theorem QL (l:List Int)(n:Int):(yF l n).Perm (l ++ [n]):=by
 unfold yF
 refine List.perm_middle.trans ?_
 rw[List.take_append_drop]
 exact (List.perm_append_singleton n l).symm
theorem JG {l:List Int}(h:l.Pairwise (fun a b=>a<b)){n:Int}(hn:n∉l):(yF l n).Pairwise (fun a b=>a<b):=by
 unfold yF Q9
 rw[Dp,Ux]
 rw[List.pairwise_append,List.pairwise_cons]
 have h1:=h
 rw[←List.takeWhile_append_dropWhile (p:=fun a=>decide (a<n)) (l:=l),List.pairwise_append] at h1
 have hd:∀ b∈l.dropWhile (fun a=>decide (a<n)),n<b:=by
  intro b hb
  cases hc:l.dropWhile (fun a=>decide (a<n)) with
  | nil=>rw[hc] at hb;simp at hb
  | cons x r=>
   have hx:¬ x<n:=by
    have:=dw_head _ l x r hc
    simpa using this
   have hxl:x∈l:=(List.dropWhile_sublist (fun a=>decide (a<n))).mem (by rw[hc];simp)
   have tJ:x≠n:=fun e=>hn (e ▸ hxl)
   rw[hc] at hb
   rcases List.mem_cons.1 hb with rfl | hb
   ·omega
   ·have h2:=h1.2.1
    rw[hc,List.pairwise_cons] at h2
    have h3:=h2.1 b hb
    omega
 refine ⟨h1.1,⟨hd,h1.2.1⟩,?_⟩
 intro a ha b hb
 rcases List.mem_cons.1 hb with rfl | hb
 ·have:=UV ha
  simpa using this
 ·exact h1.2.2 a ha b hb
theorem Hl {l:List Int}(h:l.Pairwise (fun a b=>a<b))(n:Int):(∃ _:Q9 l n<l.length,gd l (Q9 l n)=n)↔n∈l:=by
 constructor
 ·rintro ⟨hk,e⟩
  rw[qd hk] at e
  exact e ▸ List.getElem_mem hk
 ·intro hn
  have h1:=h
  rw[←List.takeWhile_append_dropWhile (p:=fun a=>decide (a<n)) (l:=l),List.pairwise_append] at h1
  have hn2:n∈l.dropWhile (fun a=>decide (a<n)):=by
   have:=hn
   rw[←List.takeWhile_append_dropWhile (p:=fun a=>decide (a<n)) (l:=l),List.mem_append] at this
   rcases this with h2 | h2
   ·have:=UV h2;simp at this
   ·exact h2
  cases hc:l.dropWhile (fun a=>decide (a<n)) with
  | nil=>rw[hc] at hn2;simp at hn2
  | cons x r=>
   have hx:¬ x<n:=by
    have:=dw_head _ l x r hc
    simpa using this
   have tJ:x=n:=by
    rw[hc] at hn2
    rcases List.mem_cons.1 hn2 with e | h2
    ·exact e.symm
    ·have h3:=h1.2.1
     rw[hc,List.pairwise_cons] at h3
     have:=h3.1 n h2
     omega
   have hd:=Ux (fun a=>decide (a<n)) l
   rw[hc] at hd
   have hk:Q9 l n<l.length:=by
    unfold Q9
    rcases Nat.lt_or_ge (l.takeWhile (fun a=>decide (a<n))).length l.length with h2 | h2
    ·exact h2
    ·rw[List.drop_eq_nil_of_le h2] at hd;cases hd
   refine ⟨hk,?_⟩
   rw[qd hk]
   have:=List.getElem_cons_drop hk
   unfold Q9 at this
   rw[hd] at this
   injection this with e1 e2
   unfold Q9
   rw[e1,tJ]
theorem Y_ {s t:List Int}(hp:s.Perm t)(hs:s.Pairwise (fun a b=>a≤b))(ht:t.Pairwise (fun a b=>a≤b)):s=t:=
 List.Perm.eq_of_pairwise (le:=fun a b:Int=>a≤b) (fun a b _ _ h1 h2=>by omega) hs ht hp
end Go.Inc
namespace Go.Proofs.YtdhcjhfgibmhfaaGreatDoor
open Go.RowKit Go.Own Go.Quo Go.Inc
theorem Zd (B:Nat→Prop)(A:Option Addr)(c:Nat)(l:List Int)(w:World)(h:RI w B A l)(hl:l.length≤100000):Calls Tryz.prog 54 #[.slice A l.length c] w (qL l 3 w):=by
 have HR:=ħ h
 have d_:∀ (n c:Nat) (W:World),(binOp .eql 32 (.slice none n c) (.slice none 0 0)).run Tryz.prog W=.ok (.bool true) W:=fun _ _ _=>by rfl
 have fw:∀ (a:Addr) (n c:Nat) (W:World),(binOp .eql 32 (.slice (some a) n c) (.slice none 0 0)).run Tryz.prog W=.ok (.bool false) W:=fun _ _ _ _=>by rfl
 have ho:=World.ownsRow_made (base:=w.heap.size) (e:=3) (size:=1) w #[] 0 (Nat.le_refl _) (by simp) (by simp)
 have HO:=ħ ho
 have HB:=ħ ((Below.refl w.heap.size w).alloc (Nat.le_refl _) (.cells #[] 3))
 clear ho
 cases A with
 | none=>
  have h0:l=[]:=by
   rcases Nat.eq_zero_or_pos l.length with h0 | h0
   ·exact List.eq_nil_of_length_eq_zero h0
   ·obtain ⟨ad,e,_⟩:=h.2 h0;cases e
  subst h0
  clear h
  go_enter Tryz.func54,Tryz.ntmps54
  go_wp2_with fail
  go_ret
  exact ⟨none,0,rfl,World.ownsRow_nil _ _ _ _,Below.refl _ _⟩
 | some ad=>
  have HR1:=ħ (HR.out.alloc (.cells #[] 3))
  clear h
  go_enter Tryz.func54,Tryz.ntmps54
  go_wp2_with (at_builtin;refine ze _ rfl _ _ _ rfl w.heap.size 3 _ 1 8 Tryz.underlying32 info3 rfl (by omega) (.slice (some ⟨w.heap.size,0,none⟩) 0 0) 0 [] rfl HO.out _ (some ad) l.length c (l.map (Value.int .i64)) rfl HR1.out (by intro u hu;obtain ⟨x,-,rfl⟩:=List.mem_map.1 hu;rfl) (by simp only[maxLen];omega) (by omega) (by simp) ?_;intro A2 c2 w2 hown hgr hat)
  go_ret
  have hown2:w2.ownsRow w.heap.size 3 1 (.slice A2 l.length c2) l.length (l.map (Value.int .i64)):=by simpa using hown
  refine ⟨A2,c2,by simp,hown2,?_⟩
  exact Below.grown HB.out hgr (by simp) (fun j hj=>by simp[Value.ownBlock] at hj;omega)
theorem XM (B:Nat→Prop)(A:Option Addr)(c:Nat)(l:List Int)(w:World)(h:RI w B A l)(hl:l.length≤100000):Calls Tryz.prog 85 #[.slice A l.length c] w (qL l 2 w):=by
 have HR:=ħ h
 have d_:∀ (n c:Nat) (W:World),(binOp .eql 46 (.slice none n c) (.slice none 0 0)).run Tryz.prog W=.ok (.bool true) W:=fun _ _ _=>by rfl
 have fw:∀ (a:Addr) (n c:Nat) (W:World),(binOp .eql 46 (.slice (some a) n c) (.slice none 0 0)).run Tryz.prog W=.ok (.bool false) W:=fun _ _ _ _=>by rfl
 have ho:=World.ownsRow_made (base:=w.heap.size) (e:=2) (size:=1) w #[] 0 (Nat.le_refl _) (by simp) (by simp)
 have HO:=ħ ho
 have HB:=ħ ((Below.refl w.heap.size w).alloc (Nat.le_refl _) (.cells #[] 2))
 clear ho
 cases A with
 | none=>
  have h0:l=[]:=by
   rcases Nat.eq_zero_or_pos l.length with h0 | h0
   ·exact List.eq_nil_of_length_eq_zero h0
   ·obtain ⟨ad,e,_⟩:=h.2 h0;cases e
  subst h0
  clear h
  go_enter Tryz.func85,Tryz.ntmps85
  go_wp2_with fail
  go_ret
  exact ⟨none,0,rfl,World.ownsRow_nil _ _ _ _,Below.refl _ _⟩
 | some ad=>
  have HR1:=ħ (HR.out.alloc (.cells #[] 2))
  clear h
  go_enter Tryz.func85,Tryz.ntmps85
  go_wp2_with (at_builtin;refine ze _ rfl _ _ _ rfl w.heap.size 2 _ 1 8 Tryz.underlying46 Yd rfl (by omega) (.slice (some ⟨w.heap.size,0,none⟩) 0 0) 0 [] rfl HO.out _ (some ad) l.length c (l.map (Value.int .i64)) rfl HR1.out (by intro u hu;obtain ⟨x,-,rfl⟩:=List.mem_map.1 hu;rfl) (by simp only[maxLen];omega) (by omega) (by simp) ?_;intro A2 c2 w2 hown hgr hat)
  go_ret
  have hown2:w2.ownsRow w.heap.size 2 1 (.slice A2 l.length c2) l.length (l.map (Value.int .i64)):=by simpa using hown
  refine ⟨A2,c2,by simp,hown2,?_⟩
  exact Below.grown HB.out hgr (by simp) (fun j hj=>by simp[Value.ownBlock] at hj;omega)
def Vv (l:List Int)(n:Int):Int:=match l.findIdx? (fun x=>x == n) with | some k=>(k:Int) | none=>-1
theorem Fx {l:List Int}{n:Int}{k:Nat}(hk:k<l.length)(h:gd l k=n)(hb:∀ i,i<k→gd l i≠n):Vv l n=k:=by
 unfold Vv
 have:l.findIdx? (fun x=>x == n)=some k:=by
  rw[List.findIdx?_eq_some_iff_getElem]
  refine ⟨hk,?_,fun i hi=>?_⟩
  ·rw[qd hk] at h;simpa using h
  ·have:=hb i hi;rw[qd (by omega)] at this;simpa using this
 rw[this]
theorem Fj {l:List Int}{n:Int}(hb:∀ i,i<l.length→gd l i≠n):Vv l n = -1:=by
 unfold Vv
 have:l.findIdx? (fun x=>x == n)=none:=by
  rw[List.findIdx?_eq_none_iff]
  intro x hx
  obtain ⟨i,hi,rfl⟩:=List.mem_iff_getElem.1 hx
  have:=hb i hi;rw[qd hi] at this;simpa using this
 rw[this]
theorem AZ (l:List Int)(n:Int):decide (0≤Vv l n)=hasB l n:=by
 cases h:l.findIdx? (fun x=>x == n) with
 | none=>
  have e:Vv l n = -1:=by unfold Vv;rw[h]
  rw[e]
  have:∀ j,j<l.length→gd l j≠n:=fun j hj=>by
   rw[List.findIdx?_eq_none_iff] at h
   have:=h (l[j]) (List.getElem_mem hj)
   rw[qd hj];simpa using this
  rw[Ha this];rfl
 | some k=>
  have e:Vv l n=k:=by unfold Vv;rw[h]
  rw[e]
  rw[List.findIdx?_eq_some_iff_getElem] at h
  obtain ⟨h1,h2,-⟩:=h
  have:hasB l n=true:=(Ut l n).2 ⟨k,h1,by rw[qd h1];simpa using h2⟩
  rw[this];simp
theorem pu (B:Nat→Prop)(A:Option Addr)(c:Nat)(l:List Int)(n:Int)(w:World)(h:RI w B A l)(hl:l.length≤100000):Calls Tryz.prog 131 #[.slice A l.length c,ι n] w (jr (hasB l n) w):=by
 have hp:=h.plain (by omega)
 have HR:=ħ h
 clear h
 go_enter Tryz.func131,Tryz.ntmps131
 go_wp2_with fail
 go_loopw [9] (fun vi wr=>∃ (k:Nat),k≤l.length∧vi=ι k∧(∀ i,i<k→gd l i≠n)∧wr=w) (fun vi _=>l.length - (intOf vi).toNat)
 case atStart=>exact ⟨0,Nat.zero_le _,rfl,fun i hi=>by omega,rfl⟩
 case round=>
  obtain ⟨k,hk,rfl,hz,rfl⟩:=hrel
  have HZ:=ħ hz
  clear hz
  by_cases hlt:k<l.length
  ·have hlt':(k:Int)<l.length:=by omega
   have hix:=fun W=>JI hp c k hlt W
   have hc:=qJ HR.out hlt
   by_cases h0:gd l k=n
   ·have HF:=ħ ((Ut l n).2 ⟨k,hlt,h0⟩)
    rw[h0] at hc
    clear h0
    go_wp2_with fail
    go_ret
    exact ⟨by rw[HF.out];rfl,rfl⟩
   ·have HF:=ħ (show ∀ i,i<k+1→gd l i≠n from fun i hi=>by
     rcases (by omega:i<k∨i=k) with e | rfl
     ·exact HZ.out i e
     ·exact h0)
    generalize gd l k=v at *
    have d0:(v == n)=false:=by simpa using h0
    clear h0
    go_wp2_with fail
    exact ⟨⟨k+1,by omega,by go_num,HF.out,(by first | rfl | trivial)⟩,by simp[intOf];omega⟩
  ·have hlt':¬ (k:Int)<l.length:=by omega
   obtain rfl:k=l.length:=by omega
   have HF:=ħ (Ha HZ.out)
   go_wp2_with fail
   go_ret
   exact ⟨by rw[HF.out];rfl,rfl⟩
theorem vJ (a b:List Int){k:Nat}(hk:k<a.length):zT (a.take (k+1)) b=if hasB b (gd a k)=true then zT (a.take k) b ++ [gd a k] else zT (a.take k) b:=by
 unfold zT
 rw[List.take_succ_eq_append_getElem hk,List.filter_append,qd hk]
 cases h:hasB b a[k] with
 | true=>rw[List.filter_cons_of_pos (by simpa using h)];simp
 | false=>rw[List.filter_cons_of_neg (by simp only[h];exact Bool.false_ne_true)];simp
theorem Jj (a b:List Int):(zT a b).length≤a.length:=List.length_filter_le _ _
theorem Jl (B:Nat→Prop)(A A2:Option Addr)(c c2:Nat)(a b:List Int)(w:World)(h:RI w B A a)(h2:RI w B A2 b)(hla:a.length≤100000)(hlb:b.length≤100000) :
 Calls Tryz.prog 96 #[.slice A a.length c,.slice A2 b.length c2] w (qL (zT a b) 3 w):=by
 have hp:=h.plain (by omega)
 have HR:=ħ ((h.old (by omega)).more (B':=fun k=>k<w.heap.size) (fun k hk=>hk.2))
 have HR2:=ħ ((h2.old (by omega)).more (B':=fun k=>k<w.heap.size) (fun k hk=>hk.2))
 clear h h2
 go_enter Tryz.func96,Tryz.ntmps96
 go_wp2_with fail
 go_loopw [5,10] (fun va vi wr=>∃ (k:Nat) (A':Option Addr) (c' n:Nat),k≤a.length∧vi=ι k∧n=(zT (a.take k) b).length∧va=.slice A' n c'∧wr.ownsRow w.heap.size 3 1 (.slice A' n c') n ((zT (a.take k) b).map (Value.int .i64))∧Below w.heap.size w wr) (fun _ vi _=>a.length - (intOf vi).toNat)
 case atStart=>exact ⟨0,none,0,0,Nat.zero_le _,rfl,rfl,rfl,World.ownsRow_nil _ _ _ _,Below.refl _ _⟩
 case round=>
  obtain ⟨k,A',c',n,hk,rfl,hn,rfl,hown,hbel⟩:=hrel
  have HO:=ħ hown
  have HB:=ħ hbel
  have HN:=ħ hn
  have hnk:n≤100000:=by have:=Jj (a.take k) b;rw[List.length_take] at this;omega
  by_cases hlt:k<a.length
  ·have hlt':(k:Int)<a.length:=by omega
   have hix:=fun W=>JI hp c k hlt W
   have hc:=qJ (HR.out.below hbel (fun _ h=>h)) hlt
   have Xj:=ħ (vJ a b hlt)
   have hsz:=hbel.size
   have HH:=ħ (pu _ A2 c2 b (gd a k) wr (HR2.out.below hbel (fun _ h=>h)) hlb)
   clear hown hbel hn
   generalize gd a k=v at *
   cases hq:hasB b v with
   | true=>
    rw[hq] at HH Xj
    go_wp2_with (first | (go_at_call 131;((with_reducible refine HH.out.mono ?_);rintro e w3 ⟨rfl,rfl⟩)) | (at_builtin;refine ze _ rfl _ _ _ rfl w.heap.size 3 _ 1 8 Tryz.underlying32 info3 rfl (by omega) (.slice A' n c') n ((zT (a.take k) b).map (Value.int .i64)) rfl (HO.out.alloc _) _ (some ⟨w3.heap.size,0,none⟩) 1 1 [ι v] rfl (Reads.newS w3 [ι v] 3 (0,0) 1 1 rfl _ rfl) (by simp[Value.oneCell']) (by simp only[maxLen];omega) (by omega) (by simp;omega) ?_;intro A3 c3 w4 hown hgr hat))
    refine ⟨⟨k+1,A3,c3,n+1,by omega,by go_num,by rw[Xj.out];simp[HN.out],rfl,?_,?_⟩,by simp[intOf];omega⟩
    ·rw[Xj.out];simpa using hown
    ·exact Below.grown (HB.out.alloc hsz _) hgr (by simp;omega) (fun j hj=>(HO.out.lt j hj).1)
   | false=>
    rw[hq] at HH Xj
    go_wp2_with (go_at_call 131;((with_reducible refine HH.out.mono ?_);rintro e w3 ⟨rfl,rfl⟩))
    refine ⟨⟨k+1,A',c',n,by omega,by go_num,by rw[Xj.out];simpa using HN.out,rfl,?_,HB.out⟩,by simp[intOf];omega⟩
    rw[Xj.out];simpa using HO.out
  ·have hlt':¬ (k:Int)<a.length:=by omega
   have he:k=a.length:=by omega
   subst he
   rw[List.take_length] at hown hn
   subst hn
   clear HO HN
   have HO:=ħ hown
   clear hown
   go_wp2_with fail
   go_ret
   exact ⟨A',c',rfl,HO.out,HB.out⟩
theorem Ke {w:World}{base:Nat}{t:TypeId}{A:Option Addr}{c:Nat}{l:List Int}(h:w.ownsRow base t 1 (.slice A l.length c) l.length (l.map (Value.int .i64))):RI w (fun k=>base≤k) A l:=
 (Reads.of_own h).more (fun k hk=>(h.lt k hk).1)
def U3 (p:Nat)(v0 v4 v7 v8 v9:Value)(c:Cr)(w:World)(e:Ending)(w':World):Prop:=∃ An cn Ac,e=.returned (.tuple #[]) ∧
 zb w' p 48 #[v0,ι c.urg,.string c.code,.slice An c.nodes.length cn,v4,ι c.since,.slice Ac 1 1,v7,v8,v9] ∧
 w'.ownsRow w.heap.size 3 1 (.slice An c.nodes.length cn) c.nodes.length (c.nodes.map (Value.int .i64))∧w'.ownsRow w.heap.size 2 1 (.slice Ac 1 1) 1 [ι c.call]∧Fr (fun k=>k=p) w w'
theorem ko (B:Nat→Prop)(p:Nat)(v0 v1 v2 v3 v4 v5 v6 v7 v8 v9:Value)(call inc urg dist since:Int)(code:ByteArray)(A:Option Addr)(c:Nat)(nodes:List Int)(closed:Bool)(w:World)
 (hp:zb w p 48 #[v0,v1,v2,v3,v4,v5,v6,v7,v8,v9]) (h:RI w B A nodes) (hB:∀ k,B k→k≠p) (hl:nodes.length≤100000) :
 Calls Tryz.prog 128 #[.pointer (some ⟨p,0,none⟩),.agg #[ι call,ι inc,ι urg,.string code,.slice A nodes.length c,ι dist,ι since,.bool closed]] w (U3 p v0 v4 v7 v8 v9 ⟨call,inc,urg,code,nodes,dist,since,closed⟩ w):=by
 have hpl:=hp.lt
 have hpn:p≠w.heap.size:=by omega
 have x0:=(zb.new w 34 #[ι call,ι inc,ι urg,.string code,.slice A nodes.length c,ι dist,ι since,.bool closed]).facts
 have HP:=ħ (((hp.set_ 1 (ι urg)).set_ 2 (.string code)).alloc (.cells #[ι call,ι inc,ι urg,.string code,.slice A nodes.length c,ι dist,ι since,.bool closed] 34))
 have HR:=ħ (((h.setCell (p:=⟨p,1,none⟩) (fun h=>hB _ h rfl) (ι urg)).setCell (p:=⟨p,2,none⟩) (fun h=>hB _ h rfl) (.string code)).alloc (.cells #[ι call,ι inc,ι urg,.string code,.slice A nodes.length c,ι dist,ι since,.bool closed] 34))
 have HX:=ħ (show zb (((w.setCell ⟨p,1,none⟩ (ι urg)).setCell ⟨p,2,none⟩ (.string code)).alloc (.cells #[ι call,ι inc,ι urg,.string code,.slice A nodes.length c,ι dist,ι since,.bool closed] 34)) w.heap.size 34 #[ι call,ι inc,ι urg,.string code,.slice A nodes.length c,ι dist,ι since,.bool closed] by
  have:=zb.new ((w.setCell ⟨p,1,none⟩ (ι urg)).setCell ⟨p,2,none⟩ (.string code)) 34 #[ι call,ι inc,ι urg,.string code,.slice A nodes.length c,ι dist,ι since,.bool closed]
  simpa using this)
 have HF:=ħ ((((Fr.refl (fun k=>k=p) w).setCell (p:=⟨p,1,none⟩) (.inl rfl) (ι urg)).setCell (p:=⟨p,2,none⟩) (.inl rfl) (.string code)).alloc (.cells #[ι call,ι inc,ι urg,.string code,.slice A nodes.length c,ι dist,ι since,.bool closed] 34))
 have y0:=hp.facts
 clear h hp
 go_enter Tryz.func128,Tryz.ntmps128
 go_wp2_with (go_at_call 54;((with_reducible refine (Zd B A c nodes _ HR.out hl).mono ?_);rintro e w2 ⟨A2,c2,rfl,ho2,hb2⟩;have zk:=ħ ho2;have BF:=ħ (HP.out.below hb2 HP.out.lt);have Zo:=ħ (HX.out.below hb2 HX.out.lt);have Dh:=ħ (HF.out.trans (Fr.of_below hb2));have hs2:=ħ hb2.size;clear ho2 hb2 x0 y0;have z0:=BF.out.facts;have u0:=Zo.out.facts))
 go_end0
 have hg:w.heap.size<w2.heap.size:=by have:=hs2.out;simp at this;omega
 have hp2:p<w2.heap.size:=by omega
 refine ⟨A2,c2,some ⟨w2.heap.size,0,none⟩,rfl,?_,?_,?_,?_⟩
 ·have:=(((BF.out.set_ 3 (.slice A2 nodes.length c2)).set_ 5 (ι since)).set_ 6 (.slice (some ⟨w2.heap.size,0,none⟩) 1 1)).alloc (.cells #[ι call] 2)
  simpa using this
 ·have:=World.ownsRow.mono zk.out (show w.heap.size+1≤_ by simp)
  exact World.ownsRow.alloc (World.ownsRow.mono (ownsRow_setCell_below (ownsRow_setCell_below (ownsRow_setCell_below this (a:=⟨p,3,none⟩) (by simp;omega) _) (a:=⟨p,5,none⟩) (by simp;omega) _) (a:=⟨p,6,none⟩) (by simp;omega) _) (by omega)) _
 ·exact ⟨by simp,.inr ⟨w2.heap.size,1,#[ι call],rfl,by omega,by have:=heap_alloc_new (((w2.setCell ⟨p,3,none⟩ (.slice A2 nodes.length c2)).setCell ⟨p,5,none⟩ (ι since)).setCell ⟨p,6,none⟩ (.slice (some ⟨w2.heap.size,0,none⟩) 1 1)) (.cells #[ι call] 2);simpa using this,Nat.le_refl _,by simp only[maxLen];omega,by simp,by simp⟩⟩
 ·exact (((Dh.out.setCell (p:=⟨p,3,none⟩) (.inl rfl) _).setCell (p:=⟨p,5,none⟩) (.inl rfl) _).setCell (p:=⟨p,6,none⟩) (.inl rfl) _).alloc _
theorem zJ:(Tryz.prog.info? 48).map (fun i=>(i.zero,i.size,i.bytes))=some (some (.agg ζ),10,136):=by kernel_rfl
theorem qo:(Tryz.prog.info? 48).map (·.size)=some 10:=by kernel_rfl
abbrev oN (x:Ic)(An Ac Au:Option Addr)(cn cc cu:Nat):Value:=.agg (ξ x An cn Ac cc Au cu)
theorem own_below {w w':World}{base C:Nat}{e:TypeId}{size n:Nat}{v:Value}{xs:List Value}(h:w.ownsRow base e size v n xs)(hb:Below C w w')(hC:∀ g,v.ownBlock=some g→g<C):w'.ownsRow base e size v n xs:=by
 refine ⟨h.1,?_⟩
 rcases h.2 with h0 | ⟨g,cap,cur,rfl,hb1,hg,r⟩
 ·exact .inl h0
 ·exact .inr ⟨g,cap,cur,rfl,hb1,(hb.block g (hC g rfl)).trans hg,r⟩
theorem zY {S:Nat→Prop}{w w':World}{base:Nat}{e:TypeId}{size n:Nat}{v:Value}{xs:List Value}(h:w.ownsRow base e size v n xs)(hf:Fr S w w')(hS:∀ g,v.ownBlock=some g→¬ S g):w'.ownsRow base e size v n xs:=by
 refine ⟨h.1,?_⟩
 rcases h.2 with h0 | ⟨g,cap,cur,rfl,hb1,hg,r⟩
 ·exact .inl h0
 ·exact .inr ⟨g,cap,cur,rfl,hb1,(hf.block g (Array.getElem?_eq_some_iff.1 hg).1 (hS g rfl)).trans hg,r⟩
theorem zR {w:World}{base:Nat}{e t:TypeId}{size n p:Nat}{v:Value}{xs:List Value}{cs:Array Value}(h:w.ownsRow base e size v n xs)(hp:zb w p t cs)(hne:t≠e):∀ g,v.ownBlock=some g→g≠p:=by
 intro g hg
 rintro rfl
 rcases h.2 with ⟨rfl,-⟩ | ⟨g',cap,cur,rfl,-,hh,-⟩
 ·cases hg
 ·simp[Value.ownBlock] at hg
  subst hg
  unfold zb at hp
  rw[hp] at hh
  injection hh with hh
  injection hh with _ ht
  exact hne ht
theorem jf {w:World}{base base':Nat}{e t:TypeId}{size size' n n':Nat}{v v':Value}{xs xs':List Value}(h:w.ownsRow base e size v n xs)(h':w.ownsRow base' t size' v' n' xs')(hne:t≠e):∀ g,v.ownBlock=some g→some g≠v'.ownBlock:=by
 intro g hg he
 rcases h'.2 with ⟨rfl,-⟩ | ⟨g',cap,cur,rfl,-,hh,-⟩
 ·cases he
 ·simp[Value.ownBlock] at he
  subst he
  exact zR h (show zb w g t cur from hh) hne g hg rfl
def Vu (x:Ic)(w:World)(e:Ending)(w':World):Prop:=∃ An Ac Au cn cc cu,e=.returned (oN x An Ac Au cn cc cu) ∧
 w'.ownsRow w.heap.size 3 1 (.slice An x.nodes.length cn) x.nodes.length (x.nodes.map (Value.int .i64))∧w'.ownsRow w.heap.size 2 1 (.slice Ac x.calls.length cc) x.calls.length (x.calls.map (Value.int .i64))∧w'.ownsRow w.heap.size 3 1 (.slice Au x.units.length cu) x.units.length (x.units.map (Value.int .i64))∧Below w.heap.size w w'
theorem lg (B:Nat→Prop)(id urg dist since merged:Int)(code:ByteArray)(nodes calls units:List Int)(An Ac Au:Option Addr)(cn cc cu:Nat)(closed:Bool)(w:World)
 (hn:RI w B An nodes) (hc:RI w B Ac calls) (hu:RI w B Au units) (hln:nodes.length≤100000) (hlc:calls.length≤100000) (Gv:units.length≤100000) :
 Calls Tryz.prog 150 #[.agg #[ι id,ι urg,.string code,.slice An nodes.length cn,ι dist,ι since,.slice Ac calls.length cc,.slice Au units.length cu,ι merged,.bool closed]] w (Vu ⟨id,urg,code,nodes,dist,since,calls,units,merged,closed⟩ w):=by
 have HX:=ħ ((zb.new w 48 #[ι id,ι urg,.string code,.slice An nodes.length cn,ι dist,ι since,.slice Ac calls.length cc,.slice Au units.length cu,ι merged,.bool closed]).alloc (.cells ζ 48))
 have HY:=ħ (show zb ((w.alloc (.cells #[ι id,ι urg,.string code,.slice An nodes.length cn,ι dist,ι since,.slice Ac calls.length cc,.slice Au units.length cu,ι merged,.bool closed] 48)).alloc (.cells ζ 48)) (w.heap.size+1) 48 ζ by
  have:=zb.new (w.alloc (.cells #[ι id,ι urg,.string code,.slice An nodes.length cn,ι dist,ι since,.slice Ac calls.length cc,.slice Au units.length cu,ι merged,.bool closed] 48)) 48 ζ
  simpa using this)
 have HN:=ħ ((hn.alloc (.cells #[ι id,ι urg,.string code,.slice An nodes.length cn,ι dist,ι since,.slice Ac calls.length cc,.slice Au units.length cu,ι merged,.bool closed] 48)).alloc (.cells ζ 48))
 have HC:=ħ ((hc.old (by omega)).more (B':=fun k=>k<w.heap.size) (fun k hk=>hk.2))
 have HU:=ħ ((hu.old (by omega)).more (B':=fun k=>k<w.heap.size) (fun k hk=>hk.2))
 have HB:=ħ (((Below.refl w.heap.size w).alloc (Nat.le_refl _) (.cells #[ι id,ι urg,.string code,.slice An nodes.length cn,ι dist,ι since,.slice Ac calls.length cc,.slice Au units.length cu,ι merged,.bool closed] 48)).alloc (by simp) (.cells ζ 48))
 clear hn hc hu
 go_enter Tryz.func150,Tryz.ntmps150
 go_upto_region 1 with (fail)
 have HS:=ħ (show w.heap.size+2≤((w.alloc (.cells #[ι id,ι urg,.string code,.slice An nodes.length cn,ι dist,ι since,.slice Ac calls.length cc,.slice Au units.length cu,ι merged,.bool closed] 48)).alloc (.cells ζ 48)).heap.size by simp)
 generalize (w.alloc _).alloc _=W at *
 have x0:=HX.out.facts
 go_upto_region 2 with (go_at_call 54;((with_reducible refine (Zd B An cn nodes _ HN.out hln).mono ?_);rintro e w2 ⟨A2,c2,rfl,ho2,hb2⟩;have zk:=ħ ho2;have Zo:=ħ (HX.out.below hb2 HX.out.lt);have vR:=ħ (HY.out.below hb2 HY.out.lt);have HB2:=ħ (HB.out.trans (hb2.mono HB.out.size));have hs2:=ħ hb2.size;clear ho2 hb2 x0;have z0:=Zo.out.facts))
 have qx:=ħ (show zb (w2.setCell ⟨w.heap.size,3,none⟩ (.slice A2 nodes.length c2)) w.heap.size 48 #[ι id,ι urg,.string code,.slice A2 nodes.length c2,ι dist,ι since,.slice Ac calls.length cc,.slice Au units.length cu,ι merged,.bool closed] by have:=Zo.out.set_ 3 (.slice A2 nodes.length c2);simpa using this)
 have RF:=ħ (vR.out.far (p:=⟨w.heap.size,3,none⟩) (by simp) (.slice A2 nodes.length c2))
 have zC:=ħ (ownsRow_setCell_below (World.ownsRow.mono zk.out HS.out) (a:=⟨w.heap.size,3,none⟩) (by simp) (.slice A2 nodes.length c2))
 have HB3:=ħ (HB2.out.setCell (p:=⟨w.heap.size,3,none⟩) (Nat.le_refl _) (.slice A2 nodes.length c2))
 have rC:=ħ (HC.out.below HB3.out (fun k hk=>hk))
 have hs3:=ħ (show W.heap.size≤(w2.setCell ⟨w.heap.size,3,none⟩ (.slice A2 nodes.length c2)).heap.size by rw[World.size_setCell];exact hs2.out)
 clear Zo vR zk HB2 HN HX HY HB z0
 generalize w2.setCell _ _=W3 at *
 have x0:=qx.out.facts
 go_upto_region 3 with (go_at_call 85;((with_reducible refine (XM _ Ac cc calls _ rC.out hlc).mono ?_);rintro e w3 ⟨A3,c3,rfl,jW,hb4⟩;have zP:=ħ (World.ownsRow.mono jW (show w.heap.size+2≤W3.heap.size from Nat.le_trans HS.out (hs3.out)));have bM:=ħ (own_below zC.out hb4 (fun g hg=>(zC.out.lt g hg).2));have jv:=ħ (qx.out.below hb4 qx.out.lt);have Yy:=ħ (RF.out.below hb4 RF.out.lt);have Zp:=ħ (HB3.out.trans (hb4.mono HB3.out.size));have hs4:=ħ (Nat.le_trans hs3.out hb4.size);clear jW hb4 x0;have z0:=jv.out.facts))
 have jq:=ħ (show zb (w3.setCell ⟨w.heap.size,6,none⟩ (.slice A3 calls.length c3)) w.heap.size 48 #[ι id,ι urg,.string code,.slice A2 nodes.length c2,ι dist,ι since,.slice A3 calls.length c3,.slice Au units.length cu,ι merged,.bool closed] by have:=jv.out.set_ 6 (.slice A3 calls.length c3);simpa using this)
 have J9:=ħ (Yy.out.far (p:=⟨w.heap.size,6,none⟩) (by simp) (.slice A3 calls.length c3))
 have qm:=ħ (ownsRow_setCell_below bM.out (a:=⟨w.heap.size,6,none⟩) (by simp) (.slice A3 calls.length c3))
 have BD:=ħ (ownsRow_setCell_below zP.out (a:=⟨w.heap.size,6,none⟩) (by simp) (.slice A3 calls.length c3))
 have ZN:=ħ (Zp.out.setCell (p:=⟨w.heap.size,6,none⟩) (Nat.le_refl _) (.slice A3 calls.length c3))
 have BO:=ħ (HU.out.below ZN.out (fun k hk=>hk))
 have hs5:=ħ (show W.heap.size≤(w3.setCell ⟨w.heap.size,6,none⟩ (.slice A3 calls.length c3)).heap.size by rw[World.size_setCell];exact hs4.out)
 clear jv Yy zP bM Zp qx RF zC HB3 rC HC z0
 generalize w3.setCell _ _=W5 at *
 have x0:=jq.out.facts
 go_upto_region 4 with (go_at_call 54;((with_reducible refine (Zd _ Au cu units _ BO.out Gv).mono ?_);rintro e w4 ⟨A4,c4,rfl,aQ,hb6⟩;have yS:=ħ (World.ownsRow.mono aQ (show w.heap.size+2≤W5.heap.size from Nat.le_trans HS.out hs5.out));have kT:=ħ (own_below qm.out hb6 (fun g hg=>(qm.out.lt g hg).2));have Dm:=ħ (own_below BD.out hb6 (fun g hg=>(BD.out.lt g hg).2));have ZI:=ħ (jq.out.below hb6 jq.out.lt);have U6:=ħ (J9.out.below hb6 J9.out.lt);have Qq:=ħ (ZN.out.trans (hb6.mono ZN.out.size));clear aQ hb6 x0;have z0:=ZI.out.facts))
 have Kn:=ħ (show zb (w4.setCell ⟨w.heap.size,7,none⟩ (.slice A4 units.length c4)) w.heap.size 48 #[ι id,ι urg,.string code,.slice A2 nodes.length c2,ι dist,ι since,.slice A3 calls.length c3,.slice A4 units.length c4,ι merged,.bool closed] by have:=ZI.out.set_ 7 (.slice A4 units.length c4);simpa using this)
 have RZ:=ħ (U6.out.far (p:=⟨w.heap.size,7,none⟩) (by simp) (.slice A4 units.length c4))
 have ZM:=ħ (ownsRow_setCell_below kT.out (a:=⟨w.heap.size,7,none⟩) (by simp) (.slice A4 units.length c4))
 have cK:=ħ (ownsRow_setCell_below yS.out (a:=⟨w.heap.size,7,none⟩) (by simp) (.slice A4 units.length c4))
 have iG:=ħ (ownsRow_setCell_below Dm.out (a:=⟨w.heap.size,7,none⟩) (by simp) (.slice A4 units.length c4))
 have Z7:=ħ (Qq.out.setCell (p:=⟨w.heap.size,7,none⟩) (Nat.le_refl _) (.slice A4 units.length c4))
 clear ZI U6 yS kT Qq Dm jq J9 qm ZN BD BO HU z0
 generalize w4.setCell _ _=W7 at *
 have x0:=Kn.out.facts
 have hy:=RZ.out
 go_wp2_with (refine z8 rfl (.tmp 2) (.tmp 15) 48 rfl (w.heap.size+1) 48 _ #[ι id,ι urg,.string code,.slice A2 nodes.length c2,ι dist,ι since,.slice A3 calls.length c3,.slice A4 units.length c4,ι merged,.bool closed] _ 10 136 zJ rfl rfl rfl hy rfl (by intro u hu;simp at hu;rcases hu with rfl | rfl | rfl | rfl | rfl | rfl | rfl | rfl | rfl | rfl <;> rfl) ?_;intro w8 zW zI yL)
 refine bodyPost_ret (results_cell_row (p:=2) (ty:=48) Tryz.results150 _ w8 (w.heap.size+1) 48 #[ι id,ι urg,.string code,.slice A2 nodes.length c2,ι dist,ι since,.slice A3 calls.length c3,.slice A4 units.length c4,ι merged,.bool closed] (0,0) _ rfl zW Tryz.underlying48 rfl qo) rfl ?_
 refine ⟨A2,A3,A4,c2,c3,c4,rfl,?_,?_,?_,?_⟩
 ·exact World.ownsRow.mono (zY ZM.out zI (fun g hg e=>by have:=(ZM.out.lt g hg).1;omega)) (by omega)
 ·exact World.ownsRow.mono (zY iG.out zI (fun g hg e=>by have:=(iG.out.lt g hg).1;omega)) (by omega)
 ·exact World.ownsRow.mono (zY cK.out zI (fun g hg e=>by have:=(cK.out.lt g hg).1;omega)) (by omega)
 ·exact Z7.out.trans (zI.below (by have:=Z7.out.size;exact this) (fun k hk e=>by omega))
end Go.Proofs.YtdhcjhfgibmhfaaGreatDoor
