import Derived.Test.YtdhcjhfgibmhfaaGreatDoorJG9
import Derived.Test.YtdhcjhfgibmhfaaGreatDoorJG1
import Derived.Test.YtdhcjhfgibmhfaaGreatDoorProg
import Derived.Test.YtdhcjhfgibmhfaaGreatDoorJG0
import Derived.IntWalk
import Derived.Deep.Cut
import Derived.Deep.CutBlock
import Derived.Deep.DeepCutAuto
import Derived.Test.YtdhcjhfgibmhfaaGreatDoorJG3
import Derived.Lib.AppendStr
import Derived.Deep.RegionHeld
import Derived.Deep.RegionLaw
import Derived.Deep.MidRow
import Derived.Test.YtdhcjhfgibmhfaaGreatDoorJG6
import Derived.Laws.BytesArg
set_option linter.unusedVariables false
set_option linter.unusedSimpArgs false
set_option maxRecDepth 10000
set_option maxHeartbeats 8000000
namespace Go.Proofs.YtdhcjhfgibmhfaaGreatDoor
open Go.RowKit Go.Own Go.Quo Go.Inc
instance (l:List Int) (n:Int):Decidable (Zt l n):=by unfold Zt;infer_instance
def Zc:Ic→List Cr→Option Ic
 | y,[]=>some y
 | y,t :: r=>if Zt y.calls t.call then none else Zc (yV y t) r
theorem Ve:∀ (y:Ic)(a b:List Cr),Zc y (a ++ b)=(Zc y a).bind (fun z=>Zc z b)
 | y,[],b=>rfl
 | y,t :: a,b=>by
  show (if Zt y.calls t.call then none else Zc (yV y t) (a ++ b))=(if Zt y.calls t.call then none else Zc (yV y t) a).bind (fun z=>Zc z b)
  by_cases h:Zt y.calls t.call
  ·rw[if_pos h,if_pos h];rfl
  ·rw[if_neg h,if_neg h];exact Ve _ a b
def qF (x:Ic)(cs:List Cr):Ic × Int:=
 if jC x=false∨cs=[] then (zO,1) else if cs.all yz=false then (zO,1) else
 match jQ cs with
 | []=>(zO,1)
 | t0 :: r=>match Zc (zt x.id t0) r with
  | none=>(zO,5)
  | some y=>if x.merged≠0 then (zO,8) else (⟨x.id,y.urg,y.code,y.nodes,x.dist,y.since,y.calls,x.units,x.merged,x.closed⟩,0)
def vN (D:Nat→Prop)(x:Ic)(err:Int)(w:World)(e:Ending)(w':World):Prop:=∃ An Ac Au cn cc cu,e=.returned (.tuple #[oN x An Ac Au cn cc cu,ι err]) ∧
 RI w' (fun b=>b<w'.heap.size∧(D b∨w.heap.size≤b)) An x.nodes∧RI w' (fun b=>b<w'.heap.size∧(D b∨w.heap.size≤b)) Ac x.calls∧RI w' (fun b=>b<w'.heap.size∧(D b∨w.heap.size≤b)) Au x.units∧Below w.heap.size w w'
theorem YX {D:Nat→Prop}{err:Int}{w:World}{w':World}(hb:Below w.heap.size w w'):vN D zO err w (.returned (.tuple #[.agg ζ,ι err])) w':=
 ⟨none,none,none,0,0,0,rfl,Reads.none_,Reads.none_,Reads.none_,hb⟩
def yY (D:Nat→Prop)(x:Ic)(cs:List Cr)(w:World)(e:Ending)(w':World):Prop:=vN D (qF x cs).1 (qF x cs).2 w e w'
theorem UZ {x:Ic}{cs:List Cr}(h:jC x=false∨cs=[]∨∃ t∈cs,yz t=false):qF x cs=(zO,1):=by
 unfold qF
 by_cases h2:jC x=false∨cs=[]
 ·rw[if_pos h2]
 ·rw[if_neg h2,if_pos]
  rcases h with h | h | ⟨t,ht,h⟩
  ·exact absurd (.inl h) h2
  ·exact absurd (.inr h) h2
  ·rw[List.all_eq_false];exact ⟨t,ht,by simp[h]⟩
theorem dK {l:List Ca}{t:Cr}{k:Nat}(hk:k≤l.length)(h1:∀ i,i<k→∀ (h:i<l.length),Xg l[i].c t)(h2:∀ h:k<l.length,¬ Xg l[k].c t):Vr (l.map (·.c)) t=k:=by
 unfold Vr
 have e:((l.map (·.c)).take k ++ (l.map (·.c)).drop k)=l.map (·.c):=List.take_append_drop k _
 rw[←e,List.takeWhile_append_of_pos (fun a ha=>by
  obtain ⟨i,hi,rfl⟩:=List.mem_iff_getElem.1 ha
  have hi2:i<k:=by rw[List.length_take] at hi;omega
  have:=h1 i hi2 (by omega)
  simpa using this)]
 have h3:((l.map (·.c)).drop k).takeWhile (fun a=>decide (Xg a t))=[]:=by
  rcases Nat.lt_or_ge k l.length with h | h
  ·rw[List.drop_eq_getElem_cons (by simpa using h)]
   have:=h2 h
   rw[List.takeWhile_cons,if_neg (by simpa using this)]
  ·rw[List.drop_eq_nil_of_le (by simpa using h)];rfl
 rw[h3,List.append_nil,List.length_take,List.length_map]
 omega
def Ql (l:List Ca)(k:Nat)(t:Ca):List Ca:=l.take k ++ t :: l.drop k
theorem KF {l:List Ca}{k:Nat}(t:Ca)(h:k≤l.length):(Ql l k t).length=l.length+1:=by
 unfold Ql
 simp
 omega
theorem Et {l:List Ca}{k:Nat}{t:Ca}(h:Vr (l.map (·.c)) t.c=k):(Ql l k t).map (·.c)=QZ (l.map (·.c)) t.c:=by
 unfold Ql QZ
 rw[h]
 simp
theorem AX {l:List Ca}{k:Nat}{t y:Ca}(h:y∈Ql l k t):y=t∨y∈l:=by
 unfold Ql at h
 rcases List.mem_append.1 h with h | h
 ·exact .inr (List.mem_of_mem_take h)
 ·rcases List.mem_cons.1 h with h | h
  ·exact .inl h
  ·exact .inr (List.mem_of_mem_drop h)
theorem FN (l:List Ca)(k:Nat):(l.take k).flatMap qC=(l.flatMap qC).take (k * 8):=by
 induction l generalizing k with
 | nil=>simp
 | cons a l ih=>
  cases k with
  | zero=>simp
  | succ k=>
   rw[List.take_succ_cons,List.flatMap_cons,List.flatMap_cons,ih,Nat.succ_mul,Nat.add_comm,List.take_append]
   have e:(qC a).length=8:=rfl
   rw[e,List.take_of_length_le (l:=qC a) (by rw[e];omega),show 8+k * 8 - 8=k * 8 by omega]
theorem F7 (l:List Ca)(k:Nat):(l.drop k).flatMap qC=(l.flatMap qC).drop (k * 8):=by
 induction l generalizing k with
 | nil=>simp
 | cons a l ih=>
  cases k with
  | zero=>simp
  | succ k=>
   rw[List.drop_succ_cons,List.flatMap_cons,ih,Nat.succ_mul,Nat.add_comm,List.drop_append]
   have e:(qC a).length=8:=rfl
   rw[e,(show (qC a).drop (8+k * 8)=[] from List.drop_eq_nil_of_le (by rw[e];omega)),show 8+k * 8 - 8=k * 8 by omega,List.nil_append]
theorem FD (l:List Ca)(k:Nat)(t:Ca):(Ql l k t).flatMap qC=(l.take k).flatMap qC ++ qC t ++ (l.flatMap qC).drop (k * 8):=by
 unfold Ql
 rw[List.flatMap_append,List.flatMap_cons,F7,List.append_assoc]
theorem lv {w:World}{B:Nat→Prop}{A:Option Addr}{l:List Ca}(h:Reads w B 8 A l.length (l.flatMap qC)){k:Nat}(hk:k≤l.length):Reads w B 8 A k ((l.take k).flatMap qC):=by
 refine ⟨by rw[yH qC 8 (fun _=>rfl),List.length_take,Nat.min_eq_left hk],fun h0=>?_⟩
 obtain ⟨ad,e,hb,hc⟩:=h.2 (by omega)
 refine ⟨ad,e,hb,fun j u hu=>hc j u ?_⟩
 rw[FN] at hu
 rw[←hu]
 have hj:j<k * 8:=by
  have:=(List.getElem?_eq_some_iff.1 hu).1
  rw[List.length_take] at this;omega
 rw[List.getElem?_take_of_lt hj]
theorem KY {A:Option Addr}{n c k:Nat}(hk:k≤c)(W:World):(Instr.slice 27 (.slice A n c) none (some (ι (k:Int))) none).run Tryz.prog W=.ok (.slice A k c) W:=by
 have hu:Tryz.prog.underlying 27=some (.slice (Tryz.prog.elem 27)):=by kernel_rfl
 have he:Tryz.prog.elem 27=34:=by kernel_rfl
 rw[run_slice_h W 27 A n c hu .i64 (k:Int) (by omega) (by omega),he,Tryz.sizeOf34]
 cases A with
 | none=>simp[sliced,Result.andThen]
 | some a=>simp[sliced,Result.andThen,Addr.add]
theorem Gm {A:Option Addr}{n c k:Nat}(hk:k≤c)(W:World):(Instr.sliceAt 27 (.slice A n c) none (some (ι (k:Int))) none).run Tryz.prog W=.ok (.slice A k c) W:=by
 have hu:Tryz.prog.underlying 27=some (.slice (Tryz.prog.elem 27)):=by kernel_rfl
 rw[run_sliceAt_slice W 27 _ _ _ _ hu]
 exact KY hk W
def kG (A:Option Addr)(c k:Nat):Option Addr:=if c=k then A else A.map (·.add (k * 8))
theorem KV {A:Option Addr}{n c k:Nat}(hk:k≤n)(W:World):(Instr.slice 27 (.slice A n c) (some (ι (k:Int))) none none).run Tryz.prog W=.ok (.slice (kG A c k) (n - k) (c - k)) W:=by
 have hu:Tryz.prog.underlying 27=some (.slice (Tryz.prog.elem 27)):=by kernel_rfl
 have he:Tryz.prog.elem 27=34:=by kernel_rfl
 rw[run_slice_l W 27 A n c hu .i64 (k:Int) (by omega) (by omega),he,Tryz.sizeOf34]
 simp[sliced,kG,Result.andThen]
theorem G9 {A:Option Addr}{n c k:Nat}(hk:k≤n)(W:World):(Instr.sliceAt 27 (.slice A n c) (some (ι (k:Int))) none none).run Tryz.prog W=.ok (.slice (kG A c k) (n - k) (c - k)) W:=by
 have hu:Tryz.prog.underlying 27=some (.slice (Tryz.prog.elem 27)):=by kernel_rfl
 rw[run_sliceAt_slice W 27 _ _ _ _ hu]
 exact KV hk W
theorem xh {w:World}{base:Nat}{A:Option Addr}{n c:Nat}{xs:List Value}(h:w.ownsRow base 34 8 (.slice A n c) n xs):n≤c:=by
 rcases h.2 with ⟨hv,h0⟩ | ⟨g,cap,cur,hv,hb,hg,hnc,_⟩
 ·omega
 ·injection hv with _ _ h3;omega
theorem um (l:List Cr)(t:Cr):jQ (l ++ [t])=QZ (jQ l) t:=by
 unfold jQ;rw[List.foldl_append];rfl
structure Rl (a b:Ic):Prop where
 urg:a.urg=b.urg
 code:a.code=b.code
 nodes:a.nodes=b.nodes
 since:a.since=b.since
 perm:b.calls.Perm a.calls
 pw:b.calls.Pairwise (fun a b=>a<b)
theorem Rl.step {a b:Ic}(h:Rl a b){t:Cr}(ht:t.call∉b.calls):Rl (qV a t) (yV b t):=by
 refine ⟨?_,?_,?_,?_,?_,?_⟩
 ·show (if t.urg<a.urg then t.urg else a.urg)=(if t.urg<b.urg then t.urg else b.urg);rw[h.urg]
 ·show (if t.urg<a.urg then t.code else a.code)=(if t.urg<b.urg then t.code else b.code);rw[h.urg,h.code]
 ·show (if 0<(zT a.nodes t.nodes).length then zT a.nodes t.nodes else a.nodes)=(if 0<(zT b.nodes t.nodes).length then zT b.nodes t.nodes else b.nodes);rw[h.nodes]
 ·show min a.since t.since=min b.since t.since;rw[h.since]
 ·show (yF b.calls t.call).Perm (a.calls ++ [t.call])
  exact (QL _ _).trans (h.perm.append_right _)
 ·exact JG h.pw ht
theorem kZ {l:List Int}(h:l.Pairwise (fun a b=>a<b))(n:Int):Zt l n↔n∈l:=by
 rw[←Hl h n]
 unfold Zt
 constructor
 ·rintro ⟨a,b⟩;exact ⟨a,b⟩
 ·rintro ⟨a,b⟩;exact ⟨a,b⟩
theorem UF:∀ (l:List Cr)(a b:Ic),Rl a b→(b.calls ++ l.map (·.call)).Nodup→∃ y,Zc b l=some y∧Rl (l.foldl qV a) y
 | [],a,b,h,_=>⟨b,rfl,h⟩
 | t :: l,a,b,h,hd=>by
  have hn:t.call∉b.calls:=by
   intro hm
   rw[List.map_cons,List.nodup_append] at hd
   exact hd.2.2 _ hm _ (by simp) rfl
  have hh:¬ Zt b.calls t.call:=by rw[kZ h.pw];exact hn
  unfold Zc
  rw[if_neg hh]
  have hp:(yF b.calls t.call ++ l.map (·.call)).Perm (b.calls ++ (t :: l).map (·.call)):=by
   have:=(QL b.calls t.call).append_right (l.map (·.call))
   simpa using this
  exact UF l (qV a t) (yV b t) (h.step hn) (hp.nodup_iff.2 hd)
theorem uZ:∀ (l:List Cr)(b y:Ic),b.calls.Pairwise (fun a b=>a<b)→Zc b l=some y→(b.calls ++ l.map (·.call)).Nodup
 | [],b,y,h,_=>by rw[List.map_nil,List.append_nil];exact h.imp (fun h=>by omega)
 | t :: l,b,y,h,hs=>by
  unfold Zc at hs
  by_cases hh:Zt b.calls t.call
  ·rw[if_pos hh] at hs;cases hs
  ·rw[if_neg hh] at hs
   have hn:t.call∉b.calls:=fun hm=>hh ((kZ h _).2 hm)
   have:=uZ l (yV b t) y (JG h hn) hs
   have hp:(yF b.calls t.call ++ l.map (·.call)).Perm (b.calls ++ (t :: l).map (·.call)):=by
    have:=(QL b.calls t.call).append_right (l.map (·.call))
    simpa using this
   exact hp.nodup_iff.1 this
theorem YT:∀ (l:List Cr)(a:Ic),(l.foldl qV a).id=a.id∧(l.foldl qV a).dist=a.dist∧(l.foldl qV a).units=a.units∧(l.foldl qV a).merged=a.merged∧(l.foldl qV a).closed=a.closed∧(l.foldl qV a).calls=a.calls ++ l.map (·.call)
 | [],a=>⟨rfl,rfl,rfl,rfl,rfl,by simp⟩
 | t :: l,a=>by
  obtain ⟨h1,h2,h3,h4,h5,h6⟩:=YT l (qV a t)
  rw[List.foldl_cons]
  refine ⟨h1,h2,h3,h4,h5,?_⟩
  rw[h6]
  show (a.calls ++ [t.call]) ++ _=_
  simp
theorem VF {l:List Int}{lo hi:Int}(h:qf l lo hi=true):l.Nodup:=(j4.1 h).1.imp (fun h=>by omega)
theorem UU {t:Cr}(h:yz t=true):1≤t.call∧t.call≤1099511627776:=by
 unfold yz zQ Qo at h
 simp at h
 omega
theorem Uw {x:Ic}{cs ss:List Cr}(hp:ss.Perm cs)(hs:ss.Pairwise UD):Jp x ss=qF x cs:=by
 unfold Jp qF
 by_cases h0:jC x=false∨cs=[]
 ·have h1:jC x=false∨ss=[]:=h0.imp id (fun h=>by subst h;exact List.Perm.eq_nil hp)
  rw[if_pos h0,if_pos h1]
 ·have h1:¬ (jC x=false∨ss=[]):=fun h=>h0 (h.imp id (fun h=>by subst h;exact List.Perm.eq_nil hp.symm))
  rw[if_neg h0,if_neg h1]
  have hall:ss.all yz=cs.all yz:=by
   rw[Bool.eq_iff_iff,List.all_eq_true,List.all_eq_true]
   exact ⟨fun h c hc=>h c (hp.mem_iff.2 hc),fun h c hc=>h c (hp.mem_iff.1 hc)⟩
  rw[hall]
  by_cases hv:cs.all yz=false
  ·rw[if_pos hv,if_pos hv]
  ·rw[if_neg hv,if_neg hv]
   have hv2:∀ c∈ss,yz c=true:=fun c hc=>by
    rw[Bool.not_eq_false,List.all_eq_true] at hv
    exact hv c (hp.mem_iff.1 hc)
   have hmp:(ss.map (·.call)).Perm (cs.map (·.call)):=hp.map _
   by_cases hd:(cs.map (·.call)).Nodup
   ·rw[←UK hd hp hs]
    match ss,hs,h1,hv2,hmp with
    | [],_,h1,_,_=>exact absurd (.inr rfl) h1
    | t0 :: r,hs,h1,hv2,hmp=>
     have hnd:=hmp.nodup_iff.2 hd
     have hbase:Rl (Qa x t0) (zt x.id t0):=⟨rfl,rfl,rfl,rfl,List.Perm.refl _,by
      show [t0.call].Pairwise _
      simp⟩
     obtain ⟨y,hy,hR⟩:=UF r (Qa x t0) (zt x.id t0) hbase (by
      show ([t0.call] ++ r.map (·.call)).Nodup
      exact hnd)
     dsimp only
     rw[hy]
     dsimp only
     have hk:=YT r (Qa x t0)
     have hrs:Vx x (t0 :: r)=r.foldl qV (Qa x t0):=rfl
     have iw:Ya (Vx x (t0 :: r)).calls=y.calls:=Hz (by rw[hrs];exact hR.perm.symm) (hR.pw.imp (fun h=>by omega))
     have hin:qf y.calls 1 1099511627776=true:=by
      rw[j4]
      refine ⟨hR.pw,fun n hn=>?_⟩
      have hm:=hR.perm.mem_iff.1 hn
      rw[hk.2.2.2.2.2] at hm
      have hm2:n∈(t0 :: r).map (·.call):=by
       rcases List.mem_append.1 hm with h | h
       ·have:n=t0.call:=by simpa [Qa] using h
        rw[this];simp
       ·rw[List.map_cons];exact List.mem_cons_of_mem _ h
      obtain ⟨t,ht,rfl⟩:=List.mem_map.1 hm2
      exact UU (hv2 t ht)
     rw[iw,hin,if_neg (by simp)]
     have Ol:(Vx x (t0 :: r)).merged=x.merged:=by rw[hrs,hk.2.2.2.1];rfl
     rw[Ol]
     by_cases hm:x.merged≠0
     ·rw[if_pos hm,if_pos hm]
     ·rw[if_neg hm,if_neg hm,hrs]
      congr 1
      have e1:(r.foldl qV (Qa x t0)).id=x.id:=hk.1
      have e2:(r.foldl qV (Qa x t0)).dist=x.dist:=hk.2.1
      have e3:(r.foldl qV (Qa x t0)).units=x.units:=hk.2.2.1
      have e4:(r.foldl qV (Qa x t0)).merged=x.merged:=hk.2.2.2.1
      have e5:(r.foldl qV (Qa x t0)).closed=x.closed:=hk.2.2.2.2.1
      rw[Ic.mk.injEq]
      exact ⟨e1,hR.urg,hR.code,hR.nodes,e2,hR.since,rfl,e3,(by first | exact e4 | rfl),e5⟩
   ·have hnd:¬ (ss.map (·.call)).Nodup:=fun h=>hd (hmp.nodup_iff.1 h)
    have hl:Jp x ss=(zO,5)∨True:=.inr trivial
    have h5:qf (Ya (Vx x ss).calls) 1 1099511627776=false:=by
     cases hq:qf (Ya (Vx x ss).calls) 1 1099511627776 with
     | false=>rfl
     | true=>
      exfalso
      have h6:=(KE _).nodup_iff.1 (VF hq)
      match ss,h1,hnd,h6 with
      | [],h1,_,_=>exact h1 (.inr rfl)
      | t0 :: r,_,hnd,h6=>
       have hk:=YT r (Qa x t0)
       have hrs:Vx x (t0 :: r)=r.foldl qV (Qa x t0):=rfl
       rw[hrs,hk.2.2.2.2.2] at h6
       exact hnd h6
    rw[if_pos h5]
    have hpc:=(yo cs).map (·.call)
    have hne:jQ cs≠[]:=fun e=>h0 (.inr (by
     have:=(yo cs).symm
     rw[e] at this;exact List.Perm.eq_nil this))
    cases hc:jQ cs with
    | nil=>exact absurd hc hne
    | cons t0 r=>
     dsimp only
     cases ha:Zc (zt x.id t0) r with
     | none=>rfl
     | some y=>
      exfalso
      have:=uZ r (zt x.id t0) y (by show [t0.call].Pairwise _;simp) ha
      rw[hc] at hpc
      exact hd (hpc.nodup_iff.1 this)
end Go.Proofs.YtdhcjhfgibmhfaaGreatDoor
namespace Go.Wire
theorem WA {n:Int}(h:Inc.In64 n):zig n<18446744073709551616:=TG h.1 h.2
end Go.Wire
namespace Go.Proofs.YtdhcjhfgibmhfaaGreatDoor
open Go.RowKit Go.Own Go.Quo Go.Inc Go.Wire
theorem info5:(Tryz.prog.info? 5).map (fun i=>(i.zero,i.size,i.bytes))=some (some (.int .u8 0),1,1):=by kernel_rfl
def bys (bs:List Int):List Value:=bs.map (Value.int .u8)
def PO (bs:List Int)(w:World)(e:Ending)(w':World):Prop:=∃ A c,e=.returned (.slice A bs.length c)∧w'.ownsRow w.heap.size 5 1 (.slice A bs.length c) bs.length (bys bs)∧Below w.heap.size w w'
theorem PU (bs:List Int):∀ u∈bys bs,u.oneCell'=true:=by
 intro u hu
 obtain ⟨x,-,rfl⟩:=List.mem_map.1 hu
 rfl
theorem PX (n:Int)(w:World)(hn:In64 n):Calls Tryz.prog 113 #[ι n] w (PO (z01 n) w):=by
 have hlen:=Sv hn.1 hn.2
 have HE:=ħ (show z01 n=Rv (zig n) from rfl)
 have hzl:=WA hn
 generalize z01 n=en at *
 obtain ⟨hn0,hn1⟩:=hn
 go_enter Tryz.func113,Tryz.ntmps113
 go_upto_if 9 with (fail)
 go_cut [3] (fun v wx=>v=.int .u64 ((zig n:Nat):Int)∧wx=w)
 case first=>
  by_cases hneg:n<0
  ·have hw1:IntKind.i64.wrap (n+1)=n+1:=IntWalk.i64_in _ (by omega)
   have hw2:IntKind.i64.wrap (-(n+1)) = -(n+1):=IntWalk.i64_in _ (by omega)
   have hw3:IntKind.u64.wrap (-(n+1)) = -(n+1):=by rw[IntKind.wrap_u64];omega
   have hw4:IntKind.u64.wrap (-(n+1) * 2) = -(n+1) * 2:=by rw[IntKind.wrap_u64];omega
   have Vg:IntKind.u64.wrap (-(n+1) * 2+1)=((zig n:Nat):Int):=by rw[IntKind.wrap_u64];unfold zig;rw[if_neg (by omega)];omega
   go_wp2_with fail
   go_meet
   case rel=>exact ⟨rfl,rfl⟩
  ·have hw1:IntKind.u64.wrap n=n:=by rw[IntKind.wrap_u64];omega
   have hw2:IntKind.u64.wrap (n * 2)=((zig n:Nat):Int):=by rw[IntKind.wrap_u64];unfold zig;rw[if_pos (by omega)];omega
   go_wp2_with fail
   go_meet
   case rel=>exact ⟨by first | rfl | (rw[hw1,hw2]),rfl⟩
 case rest=>
  obtain ⟨rfl,rfl⟩:=hcut
  generalize zig n=z at *
  clear hn0 hn1
  go_wp2_with fail
  have o0:(wc.alloc (.cells #[] 5)).ownsRow wc.heap.size 5 1 (.slice (some ⟨wc.heap.size,0,none⟩) 0 0) 0 (bys []):=⟨rfl,.inr ⟨wc.heap.size,0,#[],rfl,Nat.le_refl _,heap_alloc_new wc _,Nat.le_refl _,by simp[maxLen],rfl,rfl⟩⟩
  have b0:Below wc.heap.size wc (wc.alloc (.cells #[] 5)):=(Below.refl _ _).alloc (Nat.le_refl _) _
  generalize wc.alloc (.cells #[] 5)=W0 at *
  go_loopw [3,4] (fun vu vb wr=>∃ (u:Nat) (o:List Int) (A:Option Addr) (c:Nat),vu=.int .u64 u∧u<18446744073709551616∧vb=.slice A o.length c∧wr.ownsRow wc.heap.size 5 1 (.slice A o.length c) o.length (bys o)∧o ++ Rv u=en∧Below wc.heap.size wc wr) (fun u _ _=>(intOf u).toNat)
  case atStart=>exact ⟨z,[],_,0,rfl,hzl,rfl,o0,by rw[HE.out];rfl,b0⟩
  case round=>
   obtain ⟨u,o,A,c,rfl,hu,rfl,hown,ho,hb⟩:=hrel
   have HO:=ħ ho
   have hsz:=hb.size
   have hol:o.length+(Rv u).length≤en.length:=by rw[←List.length_append,ho];exact Nat.le_refl _
   have HOw:=ħ hown
   have z0_:o.length≤30:=by omega
   clear ho hown
   by_cases h:u<128
   ·have h':¬ (128:Int)≤u:=by omega
    have LH:IntKind.u8.wrap (u:Int)=u:=by rw[IntKind.wrap_u8'];omega
    go_wp2_with (at_builtin;refine ze _ rfl _ _ _ rfl wc.heap.size 5 _ 1 1 Tryz.underlying99 info5 rfl (by omega) (.slice A o.length c) o.length (bys o) rfl (HOw.out.alloc _) _ (some ⟨wr.heap.size,0,none⟩) 1 1 [.int .u8 u] rfl (Reads.newS _ [.int .u8 u] 5 (0,0) 1 1 rfl _ rfl) (by simp[Value.oneCell']) (by simp only[maxLen];omega) (by omega) (by simp;omega) ?_;intro A4 c4 w4 Ri RG TT)
    go_ret
    have e4:en=o ++ [(u:Int)]:=by rw[←HO.out,Rz h]
    refine ⟨A4,c4,by rw[e4];simp,by rw[e4];simpa [bys] using Ri,(hb.alloc hsz _).grown RG (by simp;omega) (fun g hg=>(HOw.out.lt g hg).1)⟩
   ·have h':(128:Int)≤u:=by omega
    go_wp2_with (at_builtin;refine ze _ rfl _ _ _ rfl wc.heap.size 5 _ 1 1 Tryz.underlying99 info5 rfl (by omega) (.slice A o.length c) o.length (bys o) rfl (HOw.out.alloc _) _ (some ⟨wr.heap.size,0,none⟩) 1 1 [.int .u8 ((u:Int) % 128+128)] rfl (Reads.newS _ [.int .u8 ((u:Int) % 128+128)] 5 (0,0) 1 1 rfl _ rfl) (by simp[Value.oneCell']) (by simp only[maxLen];omega) (by omega) (by simp;omega) ?_;intro A4 c4 w4 Ri RG TT)
    have hsh:(u:Int) / 128=((u / 128:Nat):Int):=by omega
    refine ⟨⟨u / 128,o ++ [(u:Int) % 128+128],A4,c4,congrArg _ hsh,by omega,by simp,by simpa [bys] using Ri,?_,(hb.alloc hsz _).grown RG (by simp;omega) (fun g hg=>(HOw.out.lt g hg).1)⟩,by simp[intOf];omega⟩
    rw[←HO.out,R_ h,List.append_assoc]
    congr 2
end Go.Proofs.YtdhcjhfgibmhfaaGreatDoor
namespace Go.Own
open Go.RowKit
theorem RQ {P:Program}(w:World){o:Oper}{a:Act}{K:Act→World→Prop}{Q:Exit→Act→World→Prop}(s x:Operand)(t u:TypeId)
 (ho:o.op=.call { callee:=.builtin .append,args:=#[s,x],argTypes:=#[t,u] })
 (base:Nat) (e:TypeId) (ht:P.underlying t=some (.slice e)) (hu:P.underlying u=some .string) (hi:(P.info? e).map (fun i=>(i.zero,i.size,i.bytes))=some (some (.int .u8 0),1,1))
 (v:Value) (n:Nat) (xs:List Value) (hs:a.eval s=v) (hown:w.ownsRow base e 1 v n xs) (str:ByteArray) (hx:a.eval x=.string str)
 (h63:n+str.size≤maxLen) (hbytes:n+str.size≤140737488355328) (hbase:base≤w.heap.size)
 (h:∀ A' c' w',w'.ownsRow base e 1 (.slice A' (n+str.size) c') (n+str.size) (xs ++ Lib.strCells str)→w.grownBy w' v.ownBlock→K (a.put o.dst (.slice A' (n+str.size) c')) w'):o.wp P a w K Q:=by
 obtain ⟨i,hi,hz,hsize,hby⟩:=info_parts hi
 obtain ⟨v',w',hrun,h2,h3,-⟩:=Lib.run_append_own_string (P:=P) w base t u o.type e i ht hu hi hz hsize hby v n xs hown str h63 hbytes hbase
 unfold Oper.wp execOp
 simp only[ho,resolve,invoke,builtin,Sem.run_bind,Sem.run_pure,Result.andThen_ok,List.map_toArray,List.map_cons,List.map_nil,hs,hx,hrun]
 have hv:∃ A' c',v'=.slice A' (n+str.size) c':=by
  have hl:=h2.1
  rcases h2.2 with ⟨rfl,hx0⟩ | ⟨g,cap,cur,rfl,_⟩
  ·have:n+str.size=0:=by
    rw[hx0] at hl;simp at hl;omega
   rw[this];exact ⟨_,_,rfl⟩
  ·exact ⟨_,_,rfl⟩
 obtain ⟨A',c',rfl⟩:=hv
 exact h A' c' w' h2 h3
theorem KC {P:Program}(w:World){ops:Array Oper}{rest:List Oper}{o:Oper}{a:Act}{Q:Exit→Act→World→Prop}(hgd:o.guard=none)(s x:Operand)(t u:TypeId)
 (ho:o.op=.call { callee:=.builtin .append,args:=#[s,x],argTypes:=#[t,u] })
 (base:Nat) (e:TypeId) (ht:P.underlying t=some (.slice e)) (hu:P.underlying u=some .string) (hi:(P.info? e).map (fun i=>(i.zero,i.size,i.bytes))=some (some (.int .u8 0),1,1))
 (v:Value) (n:Nat) (xs:List Value) (hs:a.eval s=v) (hown:w.ownsRow base e 1 v n xs) (str:ByteArray) (hx:a.eval x=.string str)
 (h63:n+str.size≤maxLen) (hbytes:n+str.size≤140737488355328) (hbase:base≤w.heap.size)
 (h:∀ A' c' w',w'.ownsRow base e 1 (.slice A' (n+str.size) c') (n+str.size) (xs ++ Lib.strCells str)→w.grownBy w' v.ownBlock→wpList P ops Q rest (a.put o.dst (.slice A' (n+str.size) c')) w'):wpList P ops Q (o :: rest) a w:=
 wpList_plain hgd fun _ hK=>RQ w s x t u ho base e ht hu hi v n xs hs hown str hx h63 hbytes hbase fun A' c' w' h2 h3=>hK _ _ (h A' c' w' h2 h3)
theorem Ry {P:Program}(w:World){ops:Array Oper}{o:Oper}{a:Act}{K:Act→World→Prop}{Q:Exit→Act→World→Prop}{E:Prop}(hgd:o.guard=none)(s x:Operand)(t u:TypeId)
 (ho:o.op=.call { callee:=.builtin .append,args:=#[s,x],argTypes:=#[t,u] })
 (base:Nat) (e:TypeId) (ht:P.underlying t=some (.slice e)) (hu:P.underlying u=some .string) (hi:(P.info? e).map (fun i=>(i.zero,i.size,i.bytes))=some (some (.int .u8 0),1,1))
 (v:Value) (n:Nat) (xs:List Value) (hs:a.eval s=v) (hown:w.ownsRow base e 1 v n xs) (str:ByteArray) (hx:a.eval x=.string str)
 (h63:n+str.size≤maxLen) (hbytes:n+str.size≤140737488355328) (hbase:base≤w.heap.size)
 (h:∀ A' c' w',w'.ownsRow base e 1 (.slice A' (n+str.size) c') (n+str.size) (xs ++ Lib.strCells str)→w.grownBy w' v.ownBlock→K (a.put o.dst (.slice A' (n+str.size) c')) w') :
 if Region.wanted o (yielded ops a.tmps)=true then Oper.wp P o a w K Q else E:=by
 have hw:Region.wanted o (yielded ops a.tmps)=true:=by simp[Region.wanted,hgd]
 rw[if_pos hw]
 exact RQ w s x t u ho base e ht hu hi v n xs hs hown str hx h63 hbytes hbase h
end Go.Own
namespace Go.Proofs.YtdhcjhfgibmhfaaGreatDoor
open Go.RowKit Go.Own Go.Quo Go.Inc Go.Wire
theorem Wv (B:Nat→Prop)(A:Option Addr)(c:Nat)(l:List Int)(w:World)(h:RI w B A l)(hl:l.length≤100000):Calls Tryz.prog 109 #[.slice A l.length c] w (qL l 3 w):=by
 have hp:=h.plain (by omega)
 have HR:=ħ ((h.old (by omega)).more (B':=fun k=>k<w.heap.size) (fun k hk=>hk.2))
 clear h
 go_enter Tryz.func109,Tryz.ntmps109
 go_wp2_with fail
 go_loopw [3,8] (fun va vi wr=>∃ (k:Nat) (A':Option Addr) (c':Nat),k≤l.length∧vi=ι k∧va=.slice A' k c'∧wr.ownsRow w.heap.size 3 1 (.slice A' k c') k ((l.take k).map (Value.int .i64))∧Below w.heap.size w wr) (fun _ vi _=>l.length - (intOf vi).toNat)
 case atStart=>exact ⟨0,none,0,Nat.zero_le _,rfl,rfl,World.ownsRow_nil _ _ _ _,Below.refl _ _⟩
 case round=>
  obtain ⟨k,A',c',hk,rfl,rfl,hown,hbel⟩:=hrel
  have HO:=ħ hown
  have HB:=ħ hbel
  by_cases hlt:k<l.length
  ·have hlt':(k:Int)<l.length:=by omega
   have hix:=fun W=>Ki hp c k hlt W
   have hc:=qJ (HR.out.below hbel (fun _ h=>h)) hlt
   have Nf:=ħ (show l.take (k+1)=l.take k ++ [gd l k] by rw[List.take_add_one,List.getElem?_eq_getElem hlt,qd hlt];rfl)
   have hsz:=hbel.size
   clear hown hbel
   generalize gd l k=v at *
   go_wp2_with (at_builtin;refine ze _ rfl _ _ _ rfl w.heap.size 3 _ 1 8 Tryz.underlying32 info3 rfl (by omega) (.slice A' k c') k ((l.take k).map (Value.int .i64)) rfl (HO.out.alloc _) _ (some ⟨wr.heap.size,0,none⟩) 1 1 [ι v] rfl (Reads.newS wr [ι v] 3 (0,0) 1 1 rfl _ rfl) (by simp[Value.oneCell']) (by simp only[maxLen];omega) (by omega) (by simp;omega) ?_;intro A2 c2 w2 hown hgr hat)
   refine ⟨⟨k+1,A2,c2,by omega,by go_num,rfl,?_,?_⟩,by simp[intOf];omega⟩
   ·rw[Nf.out,List.map_append];exact hown
   ·exact Below.grown (HB.out.alloc hsz _) hgr (by simp;omega) (fun j hj=>(HO.out.lt j hj).1)
  ·have hlt':¬ (k:Int)<l.length:=by omega
   have he:k=l.length:=by omega
   subst he
   rw[List.take_length] at hown
   clear HO
   go_wp2_with fail
   go_ret
   exact ⟨A',c',rfl,hown,HB.out⟩
theorem PM {n:Int}(h:In64 n):(z01 n).length≤10:=Sv h.1 h.2
theorem z0s (n:Int)(b:Bool)(d:ByteArray)(v:Value)(hv:v.oneCell'=true)(w:World)(hn:In64 n):Calls Tryz.prog 153 #[.agg #[ι 0,ι n,.bool b,.string d,v]] w (PO (z01 n) w):=by
 have HI:=ħ fun W=>PX n W hn
 have HB:=ħ ((Below.refl w.heap.size w).alloc (Nat.le_refl _) (.cells #[ι 0,ι n,.bool b,.string d,v] 141))
 have x0:=(zb.new w 141 #[ι 0,ι n,.bool b,.string d,v]).facts
 clear hn
 generalize z01 n=en at *
 go_enter Tryz.func153,Tryz.ntmps153
 go_wp2_with (go_at_call 113;((with_reducible refine (HI.out _).mono ?_);rintro e w2 ⟨A,c,rfl,ho,hb⟩;have HO:=ħ ho;have HB2:=ħ (HB.out.trans (hb.mono HB.out.size));clear ho hb))
 go_ret
 exact ⟨A,c,rfl,World.ownsRow.mono HO.out (by simp),HB2.out⟩
theorem z00 (n:Int)(b:Bool)(d:ByteArray)(v:Value)(hv:v.oneCell'=true)(w:World):Calls Tryz.prog 153 #[.agg #[ι 1,ι n,.bool b,.string d,v]] w (PO (encB b) w):=by
 have HB:=ħ fun o=>(((Below.refl w.heap.size w).alloc (Nat.le_refl _) (.cells #[ι 1,ι n,.bool b,.string d,v] 141)).alloc (by simp) o)
 have HO:=ħ fun (x:Int)=>World.ownsRow_lit (base:=w.heap.size) (e:=5) (size:=1) (w.alloc (.cells #[ι 1,ι n,.bool b,.string d,v] 141)) #[.int .u8 x] 1 (by simp) (by simp only[maxLen];omega) rfl
 have x0:=(zb.new w 141 #[ι 1,ι n,.bool b,.string d,v]).facts
 cases b with
 | true=>
  go_enter Tryz.func153,Tryz.ntmps153
  go_wp2_with fail
  go_ret
  exact ⟨_,_,rfl,by simpa [encB,bys] using HO.out 1,HB.out _⟩
 | false=>
  go_enter Tryz.func153,Tryz.ntmps153
  go_wp2_with fail
  go_ret
  exact ⟨_,_,rfl,by simpa [encB,bys] using HO.out 0,HB.out _⟩
theorem z0w (n:Int)(b:Bool)(d:ByteArray)(v:Value)(hv:v.oneCell'=true)(w:World)(hd:d.size≤100000):Calls Tryz.prog 153 #[.agg #[ι 3,ι n,.bool b,.string d,v]] w (PO (z0d d) w):=by
 have HI:=ħ fun W=>PX (d.size:Int) W ⟨by omega,by omega⟩
 have hel:=PM (n:=(d.size:Int)) ⟨by omega,by omega⟩
 have HW:=ħ ((Below.refl w.heap.size w).alloc (Nat.le_refl _) (.cells #[ι 3,ι n,.bool b,.string d,v] 141))
 have HX:=ħ (zb.new w 141 #[ι 3,ι n,.bool b,.string d,v])
 have HE:=ħ (show z0d d=z01 (d.size:Int) ++ Rh d from rfl)
 have HL:=ħ (RP d)
 have lV:=ħ (Ro d)
 have x0:=HX.out.facts
 generalize z01 (d.size:Int)=en at *
 generalize z0d d=es at *
 go_enter Tryz.func153,Tryz.ntmps153
 go_upto_region 10 with (fail)
 have hsw:w.heap.size+1=(w.alloc (.cells #[ι 3,ι n,.bool b,.string d,v] 141)).heap.size:=by simp
 generalize w.alloc _=W at *
 have HK:=ħ fun (W':World) (hb:Below W.heap.size W W')=>(show W'.cell? ⟨w.heap.size,3,none⟩=some (.string d) by rw[zb.cell (HX.out.below hb HX.out.lt)];rfl)
 have K0:=HK.out _ (Below.refl _ W).drew
 clear x0
 have hk0:=K0
 go_region_law (first
  | (refine Ry _ (by rfl) (.tmp 24) (.tmp 26) _ _ (by rfl) W.heap.size 5 Tryz.underlying99 Tryz.underlying9 info5 (.slice A en.length c) en.length (bys en) (by rfl) zk.out d (by rfl) (by simp only[maxLen];omega) (by omega) B2.size ?_
     intro A3 c3 w3 hown hgr
     have zC:=ħ hown
     have B3:=ħ (B2.grown hgr B2.size (fun g hg=>(zk.out.lt g hg).1))
     have Pk:=HK.out _ B3.out)
  | (go_simp;((with_reducible refine (HI.out _).mono ?_);rintro e w2 ⟨A,c,rfl,ho2,hb2⟩;have zk:=ħ ho2;have B2:=((Below.refl W.heap.size W).drew).trans hb2;clear ho2 hb2;have PL:=HK.out _ B2)))
 all_goals
  go_wp2_with fail
  go_ret
  have e1:es.length=en.length+d.size:=by rw[HE.out,List.length_append,lV.out]
  refine ⟨A3,c3,by rw[e1];rfl,?_,HW.out.trans (B3.out.mono HW.out.size)⟩
  have:=zC.out
  rw[HL.out] at this
  rw[e1,HE.out]
  unfold bys at this⊢
  rw[List.map_append]
  exact World.ownsRow.mono this (by omega)
theorem RV (l:List Int)(h:mZ l):(l.flatMap z01).length≤10 * l.length:=by
 induction l with
 | nil=>simp
 | cons a r ih=>
  have h1:=PM (n:=a) (h a (by simp))
  have h2:=ih (fun x hx=>h x (by simp[hx]))
  simp only[List.flatMap_cons,List.length_append,List.length_cons]
  omega
theorem S_ {l:List Int}{k:Nat}(hk:k<l.length):(l.take (k+1)).flatMap z01=(l.take k).flatMap z01 ++ z01 (gd l k):=by
 rw[List.take_succ_eq_append_getElem hk,List.flatMap_append,qd hk];simp
theorem Ww {l:List Int}(h:mZ l){k:Nat}(hk:k<l.length):In64 (gd l k):=by
 rw[qd hk];exact h _ (List.getElem_mem hk)
theorem WS (n:Int)(b:Bool)(d:ByteArray)(B:Nat→Prop)(A:Option Addr)(c:Nat)(l:List Int)(w:World)(h:RI w B A l)(hl:l.length≤100000)(hr:mZ l) :
 Calls Tryz.prog 153 #[.agg #[ι 4,ι n,.bool b,.string d,.slice A l.length c]] w (PO (encIs l) w):=by
 have hp:=h.plain (by omega)
 have HI:=ħ fun n W (hn:In64 n)=>PX n W hn
 have HW:=ħ ((Below.refl w.heap.size w).alloc (Nat.le_refl _) (.cells #[ι 4,ι n,.bool b,.string d,.slice A l.length c] 141))
 have HX:=ħ (zb.new w 141 #[ι 4,ι n,.bool b,.string d,.slice A l.length c])
 have HR:=ħ (((h.old (by omega)).more (B':=fun k=>k<w.heap.size) (fun k hk=>hk.2)).alloc (.cells #[ι 4,ι n,.bool b,.string d,.slice A l.length c] 141))
 have JL:=ħ hr
 have hE:=ħ (show encIs l=z01 (l.length:Int) ++ l.flatMap z01 from rfl)
 have hI0:=ħ (fun W=>PX (l.length:Int) W ⟨by omega,by omega⟩)
 have he0:=PM (n:=(l.length:Int)) ⟨by omega,by omega⟩
 generalize z01 (l.length:Int)=e0 at *
 have x0:=HX.out.facts
 have HS:=ħ (show w.heap.size<(w.alloc (.cells #[ι 4,ι n,.bool b,.string d,.slice A l.length c] 141)).heap.size by simp)
 clear h hr
 go_enter Tryz.func153,Tryz.ntmps153
 go_upto_region 12 with (fail)
 generalize w.alloc _=W at *
 go_wp2_with (go_at_call 113;((with_reducible refine (hI0.out _).mono ?_);rintro e w2 ⟨A2,c2,rfl,ho2,hb2⟩;have zk:=ħ (World.ownsRow.mono ho2 (Nat.le_of_lt HS.out));have Zo:=ħ (HX.out.below hb2 HX.out.lt);have HR2:=ħ (HR.out.below hb2 (fun k hk=>Nat.lt_trans hk HS.out));have HW2:=ħ (HW.out.trans (hb2.mono (Nat.le_of_lt HS.out)));clear ho2 hb2 x0))
 clear HX HR HW HS
 go_loopw [3,4] (fun va vi wr=>∃ (k m:Nat) (A':Option Addr) (c':Nat),k≤l.length∧vi=ι k∧m=(e0 ++ (l.take k).flatMap z01).length∧va=.slice A' m c'∧wr.ownsRow w.heap.size 5 1 (.slice A' m c') m (bys (e0 ++ (l.take k).flatMap z01))∧zb wr w.heap.size 141 #[ι 4,ι n,.bool b,.string d,.slice A l.length c]∧RI wr (fun k=>k<w.heap.size) A l∧Below w.heap.size w wr) (fun _ vi _=>l.length - (intOf vi).toNat)
 case atStart=>exact ⟨0,e0.length,A2,c2,Nat.zero_le _,rfl,by simp,rfl,by simpa using zk.out,Zo.out,HR2.out,HW2.out⟩
 case round=>
  obtain ⟨k,m,A',c',hk,rfl,hm,rfl,hown,hx,hri,hbel⟩:=hrel
  have HO:=ħ hown
  have HX:=ħ hx
  have HB:=ħ hbel
  have HM:=ħ hm
  have m_:=ħ hri
  have hmk:m≤10 * l.length+10:=by
   have:=RV (l.take k) (fun x hx=>JL.out x (List.mem_of_mem_take hx))
   rw[hm,List.length_append]
   rw[List.length_take] at this
   omega
  have x0:=hx.facts
  by_cases hlt:k<l.length
  ·have hlt':(k:Int)<l.length:=by omega
   have hix:=fun W=>JI hp c k hlt W
   have hc:=qJ hri hlt
   have Xj:=ħ (S_ hlt)
   have hin:=Ww JL.out hlt
   have hel:=PM hin
   have mV:=ħ (fun W=>PX (gd l k) W hin)
   clear hown hx hri hbel hm hin
   generalize z01 (gd l k)=ek at *
   generalize gd l k=v at *
   go_wp2_with (first | (go_at_call 113;((with_reducible refine (mV.out _).mono ?_);rintro e w3 ⟨A3,c3,rfl,ho3,hb3⟩;have zC:=ħ (own_below HO.out hb3 (fun g hg=>(HO.out.lt g hg).2));have qx:=ħ (HX.out.below hb3 HX.out.lt);have z0B:=ħ ((m_.out.old (by omega)).below hb3 (fun k hk=>hk.2));have HB3:=ħ (HB.out.trans (hb3.mono HB.out.size));have HOk:=ħ ho3;have hs3:=HB3.out.size;have tZ:=ħ hb3.size;clear ho3 hb3 x0)) | (at_builtin;refine ze _ rfl _ _ _ rfl w.heap.size 5 _ 1 1 Tryz.underlying99 info5 rfl (by omega) (.slice A' m c') m (bys (e0 ++ (l.take k).flatMap z01)) rfl zC.out _ A3 ek.length c3 (bys ek) rfl (Reads.of_own HOk.out) (PU _) (by simp only[maxLen];omega) (by omega) hs3 ?_;intro A4 c4 w4 Ri RG TT))
   have hgb:=zR zC.out qx.out (by decide)
   refine ⟨⟨k+1,m+ek.length,A4,c4,by omega,by go_num,by rw[Xj.out,HM.out];simp;omega,rfl,?_,qx.out.grown RG (fun e=>hgb _ e.symm rfl),(z0B.out.grown RG (fun k hk e=>by have:=(zC.out.lt k e.symm).1;omega)).more (fun k hk=>hk.1),HB3.out.grown RG hs3 (fun g hg=>(zC.out.lt g hg).1)⟩,by simp[intOf];omega⟩
   rw[Xj.out]
   simpa [bys] using Ri
  ·have hlt':¬ (k:Int)<l.length:=by omega
   have he:k=l.length:=by omega
   subst he
   rw[List.take_length,←hE.out] at hown hm
   subst hm
   clear HO HM
   have HO:=ħ hown
   clear hown hx hri hbel
   go_wp2_with fail
   go_ret
   exact ⟨A',c',rfl,HO.out,HB.out⟩
end Go.Proofs.YtdhcjhfgibmhfaaGreatDoor
namespace Go.Proofs.YtdhcjhfgibmhfaaGreatDoor
open Go.RowKit Go.Own Go.Quo Go.Inc Go.Wire
structure Th where
 k:Int
 n:Int
 b:Bool
 d:ByteArray
 A:Option Addr
 c:Nat
 l:List Int
def SY (t:Th):List Value:=[ι t.k,ι t.n,.bool t.b,.string t.d,.slice t.A t.l.length t.c]
def Rk (t:Th):List Int:=if t.k=0 then z01 t.n else if t.k=1 then encB t.b else if t.k=3 then z0d t.d else encIs t.l
def Tk (w:World)(B:Nat→Prop)(t:Th):Prop:=(t.k=0∧In64 t.n)∨t.k=1∨(t.k=3∧t.d.size≤1000)∨(t.k=4∧mZ t.l∧t.l.length≤1000∧RI w B t.A t.l)
theorem Tk.below {w w':World}{B:Nat→Prop}{t:Th}{b:Nat}(h:Tk w B t)(hb:Below b w w')(hB:∀ k,B k→k<b):Tk w' B t:=by
 rcases h with h | h | h | ⟨h1,h2,h3,h4⟩
 ·exact .inl h
 ·exact .inr (.inl h)
 ·exact .inr (.inr (.inl h))
 ·exact .inr (.inr (.inr ⟨h1,h2,h3,h4.below hb hB⟩))
theorem TL (t:Th)(B:Nat→Prop)(w:World)(h:Tk w B t):Calls Tryz.prog 153 #[.agg (SY t).toArray] w (PO (Rk t) w):=by
 obtain ⟨k,n,b,d,A,c,l⟩:=t
 unfold Rk SY
 unfold Tk at h
 simp only at h⊢
 rcases h with ⟨rfl,h⟩ | rfl | ⟨rfl,h⟩ | ⟨rfl,h1,h2,h3⟩
 ·exact z0s n b d _ rfl w h
 ·exact z00 n b d _ rfl w
 ·exact z0w n b d _ rfl w (by omega)
 ·exact WS n b d B A c l w h3 (by omega) h1
theorem SK {w:World}{B:Nat→Prop}{t:Th}(h:Tk w B t):(Rk t).length≤10010:=by
 obtain ⟨k,n,b,d,A,c,l⟩:=t
 unfold Rk
 unfold Tk at h
 simp only at h⊢
 rcases h with ⟨rfl,h⟩ | rfl | ⟨rfl,h⟩ | ⟨rfl,h1,h2,h3⟩
 ·have:=PM h;simp;omega
 ·simp[encB]
 ·have h5:(z01 (d.size:Int)).length≤10:=PM ⟨by omega,by omega⟩
  have e:z0d d=z01 (d.size:Int) ++ Rh d:=rfl
  simp[e,Ro];omega
 ·have h5:(z01 (l.length:Int)).length≤10:=PM ⟨by omega,by omega⟩
  have:=RV l h1
  have e:encIs l=z01 (l.length:Int) ++ l.flatMap z01:=rfl
  rw[if_neg (by decide),if_neg (by decide),if_neg (by decide),e,List.length_append]
  omega
theorem Tq {w:World}{B:Nat→Prop}(l:List Th)(h:∀ t∈l,Tk w B t):(l.flatMap Rk).length≤10010 * l.length:=by
 induction l with
 | nil=>simp
 | cons a r ih=>
  have h1:=SK (h a (by simp))
  have h2:=ih (fun x hx=>h x (by simp[hx]))
  simp only[List.flatMap_cons,List.length_append,List.length_cons]
  omega
theorem Wz:(Tryz.prog.info? 141).map (fun i=>(i.zero,i.size,i.bytes))=some (some (.agg #[ι 0,ι 0,.bool false,.string ⟨#[]⟩,.slice none 0 0]),5,64):=by kernel_rfl
theorem WM:(Tryz.prog.info? 141).map (·.size)=some 5:=by kernel_rfl
theorem z0l:∃ i,Tryz.prog.info? 141=some i∧i.size=5:=by obtain ⟨i,h,_,h2,_⟩:=info_parts Wz;exact ⟨i,h,h2⟩
theorem z0j {A:Option Addr}{n:Nat}(hA:Plain A n)(c k:Nat)(hk:k<n)(w:World):(Instr.indexAt 143 (.slice A n c) (ι (k:Int))).run Tryz.prog w=.ok (.pointer (some ⟨bk A,qP A+k * 5,none⟩)) w:=by
 obtain ⟨i,h1,h2⟩:=z0l
 exact jk (P:=Tryz.prog) Tryz.underlying143 h1 h2 hA c k hk w
theorem Tm {w:World}{B:Nat→Prop}{A:Option Addr}{ts:List Th}(h:Reads w B 5 A ts.length (ts.flatMap SY)){k:Nat}(hk:k<ts.length):w.rangeAt (bk A) (qP A+k * 5) (SY ts[k]):=by
 intro j v hv
 have hj:j<5:=by have:=(List.getElem?_eq_some_iff.1 hv).1;simpa [SY] using this
 have hlt:k * 5+j<ts.length * 5:=by omega
 have:=h.cell2 (k * 5+j) hlt (by omega)
 rw[flat_get SY 5 (fun _=>rfl) ts k j _ (List.getElem?_eq_getElem hk) hj] at this
 rw[Nat.add_assoc,this];exact hv
theorem WU (B:Nat→Prop)(A:Option Addr)(c:Nat)(ts:List Th)(w:World)(h:Reads w B 5 A ts.length (ts.flatMap SY))(hl:ts.length≤20)(hok:∀ t∈ts,Tk w (fun k=>k<w.heap.size) t) :
 Calls Tryz.prog 108 #[.slice A ts.length c] w (PO (ts.flatMap Rk) w):=by
 have hp:=h.plain (by omega)
 have HR:=ħ ((h.old (by omega)).more (B':=fun k=>k<w.heap.size) (fun k hk=>hk.2))
 have HK:=ħ hok
 clear h hok
 go_enter Tryz.func108,Tryz.ntmps108
 go_wp2_with fail
 have o0:(w.alloc (.cells #[] 5)).ownsRow w.heap.size 5 1 (.slice (some ⟨w.heap.size,0,none⟩) 0 0) 0 (bys []):=⟨rfl,.inr ⟨w.heap.size,0,#[],rfl,Nat.le_refl _,heap_alloc_new w _,Nat.le_refl _,by simp[maxLen],rfl,rfl⟩⟩
 have b0:Below w.heap.size w (w.alloc (.cells #[] 5)):=(Below.refl _ _).alloc (Nat.le_refl _) _
 generalize w.alloc (.cells #[] 5)=W0 at *
 go_loopw [3,4] (fun va vi wr=>∃ (k m:Nat) (A':Option Addr) (c':Nat),k≤ts.length∧vi=ι k∧m=((ts.take k).flatMap Rk).length∧va=.slice A' m c'∧wr.ownsRow w.heap.size 5 1 (.slice A' m c') m (bys ((ts.take k).flatMap Rk))∧Below w.heap.size w wr) (fun _ vi _=>ts.length - (intOf vi).toNat)
 case atStart=>exact ⟨0,0,_,0,Nat.zero_le _,rfl,rfl,rfl,o0,b0⟩
 case round=>
  obtain ⟨k,m,A',c',hk,rfl,hm,rfl,hown,hbel⟩:=hrel
  have HO:=ħ hown
  have HB:=ħ hbel
  have HM:=ħ hm
  have hmk:m≤10010 * 20:=by
   have:=Tq (ts.take k) (fun x hx=>HK.out x (List.mem_of_mem_take hx))
   rw[hm]
   rw[List.length_take] at this
   omega
  by_cases hlt:k<ts.length
  ·have hlt':(k:Int)<ts.length:=by omega
   have hix:=fun W=>z0j hp c k hlt W
   have VP:=ħ (Tm (HR.out.below hbel (fun k hk=>hk)) hlt)
   have Xj:=ħ (show (ts.take (k+1)).flatMap Rk=(ts.take k).flatMap Rk ++ Rk ts[k] by rw[List.take_succ_eq_append_getElem hlt,List.flatMap_append];simp)
   have WH:=HK.out ts[k] (List.getElem_mem hlt)
   have hel:=SK WH
   have HP:=ħ (TL ts[k] (fun k=>k<w.heap.size) wr (WH.below hbel (fun k hk=>hk)))
   have hsz:=hbel.size
   clear hown hbel hm WH b0 o0
   generalize Rk ts[k]=ek at *
   have hth:∃ v0 v1 v2 v3 v4:Value,SY ts[k]=[v0,v1,v2,v3,v4]:=⟨_,_,_,_,_,rfl⟩
   generalize SY ts[k]=tv at *
   obtain ⟨v0,v1,v2,v3,v4,rfl⟩:=hth
   have hr:=VP.out
   go_wp2_with (first | (refine wpList_load_mid rfl 141 _ rfl (bk A) (qP A+k * 5) rfl [v0,v1,v2,v3,v4] _ hr Tryz.underlying141 rfl WM ?_) | (go_at_call 153;((with_reducible refine HP.out.mono ?_);rintro e w3 ⟨A3,c3,rfl,ho3,hb3⟩;have zC:=ħ (own_below HO.out hb3 (fun g hg=>(HO.out.lt g hg).2));have HB3:=ħ (HB.out.trans (hb3.mono HB.out.size));have HOk:=ħ ho3;have hs3:=HB3.out.size;clear ho3 hb3)) | (at_builtin;refine ze _ rfl _ _ _ rfl w.heap.size 5 _ 1 1 Tryz.underlying99 info5 rfl (by omega) (.slice A' m c') m (bys ((ts.take k).flatMap Rk)) rfl zC.out _ A3 ek.length c3 (bys ek) rfl (Reads.of_own HOk.out) (PU _) (by simp only[maxLen];omega) (by omega) hs3 ?_;intro A4 c4 w4 Ri RG TT))
   refine ⟨⟨k+1,m+ek.length,A4,c4,by omega,by go_num,by rw[Xj.out,HM.out];simp,rfl,?_,HB3.out.grown RG hs3 (fun g hg=>(zC.out.lt g hg).1)⟩,by simp[intOf];omega⟩
   rw[Xj.out]
   simpa [bys] using Ri
  ·have hlt':¬ (k:Int)<ts.length:=by omega
   have he:k=ts.length:=by omega
   subst he
   rw[List.take_length] at hown hm
   clear HO HM
   have HO:=ħ hown
   have HM:=ħ hm
   clear hown hbel hm
   go_wp2_with fail
   go_ret
   exact ⟨A',c',by rw[←HM.out];rfl,by rw[←HM.out];exact HO.out,HB.out⟩
structure IcS (x:Ic):Prop where
 id:In64 x.id
 urg:In64 x.urg
 code:x.code.size≤1000
 nodes:mZ x.nodes
 nodesL:x.nodes.length≤1000
 dist:In64 x.dist
 since:In64 x.since
 calls:mZ x.calls
 callsL:x.calls.length≤1000
 units:mZ x.units
 unitsL:x.units.length≤1000
 merged:In64 x.merged
theorem Rn {w w':World}{g:Nat}{t:TypeId}{v0 v1 v2 v3 v4 v5 v6 v7 v8 v9:Value}(h:zb w' g t #[v0,v1,v2,v3,v4,v5,v6,v7,v8,v9]):w'.cell? ⟨g,0,none⟩=some v0∧w'.cell? ⟨g,1,none⟩=some v1∧w'.cell? ⟨g,2,none⟩=some v2∧w'.cell? ⟨g,3,none⟩=some v3∧w'.cell? ⟨g,4,none⟩=some v4∧w'.cell? ⟨g,5,none⟩=some v5∧w'.cell? ⟨g,6,none⟩=some v6∧w'.cell? ⟨g,7,none⟩=some v7∧w'.cell? ⟨g,8,none⟩=some v8∧w'.cell? ⟨g,9,none⟩=some v9:=by
 refine ⟨?_,?_,?_,?_,?_,?_,?_,?_,?_,?_⟩ <;> (rw[zb.cell h];rfl)
def TR (x:Ic)(An A6 Au:Option Addr)(cn c6 cu:Nat):List Th:=[⟨0,x.id,false,⟨#[]⟩,none,0,[]⟩,⟨0,x.urg,false,⟨#[]⟩,none,0,[]⟩,⟨3,0,false,x.code,none,0,[]⟩,⟨4,0,false,⟨#[]⟩,An,cn,x.nodes⟩,⟨0,x.dist,false,⟨#[]⟩,none,0,[]⟩,⟨0,x.since,false,⟨#[]⟩,none,0,[]⟩,⟨4,0,false,⟨#[]⟩,A6,c6,x.calls⟩,⟨4,0,false,⟨#[]⟩,Au,cu,x.units⟩,⟨0,x.merged,false,⟨#[]⟩,none,0,[]⟩,⟨1,0,x.closed,⟨#[]⟩,none,0,[]⟩]
theorem TM (x:Ic)(An A6 Au:Option Addr)(cn c6 cu:Nat):(TR x An A6 Au cn c6 cu).flatMap Rk=Rx x:=by
 unfold TR Rx
 simp only[List.flatMap_cons,List.flatMap_nil,Rk]
 simp
theorem WE {w:World}{B:Nat→Prop}{x:Ic}{An A6 Au:Option Addr}{cn c6 cu:Nat}(hx:IcS x)(hn:RI w B An x.nodes)(hc:RI w B A6 x.calls)(hu:RI w B Au x.units):∀ t∈TR x An A6 Au cn c6 cu,Tk w B t:=by
 intro t ht
 unfold TR at ht
 simp only[List.mem_cons,List.not_mem_nil,or_false] at ht
 unfold Tk
 rcases ht with rfl | rfl | rfl | rfl | rfl | rfl | rfl | rfl | rfl | rfl
 ·exact .inl ⟨rfl,hx.id⟩
 ·exact .inl ⟨rfl,hx.urg⟩
 ·exact .inr (.inr (.inl ⟨rfl,hx.code⟩))
 ·exact .inr (.inr (.inr ⟨rfl,hx.nodes,hx.nodesL,hn⟩))
 ·exact .inl ⟨rfl,hx.dist⟩
 ·exact .inl ⟨rfl,hx.since⟩
 ·exact .inr (.inr (.inr ⟨rfl,hx.calls,hx.callsL,hc⟩))
 ·exact .inr (.inr (.inr ⟨rfl,hx.units,hx.unitsL,hu⟩))
 ·exact .inl ⟨rfl,hx.merged⟩
 ·exact .inr (.inl rfl)
theorem Wl (B:Nat→Prop)(id urg dist since merged:Int)(code:ByteArray)(nodes calls units:List Int)(An Ac Au:Option Addr)(cn cc cu:Nat)(closed:Bool)(w:World)
 (hn:RI w B An nodes) (hc:RI w B Ac calls) (hu:RI w B Au units) (hx:IcS ⟨id,urg,code,nodes,dist,since,calls,units,merged,closed⟩) :
 Calls Tryz.prog 63 #[.agg #[ι id,ι urg,.string code,.slice An nodes.length cn,ι dist,ι since,.slice Ac calls.length cc,.slice Au units.length cu,ι merged,.bool closed]] w (PO (Rx ⟨id,urg,code,nodes,dist,since,calls,units,merged,closed⟩) w):=by
 have HW:=ħ ((Below.refl w.heap.size w).alloc (Nat.le_refl _) (.cells #[ι id,ι urg,.string code,.slice An nodes.length cn,ι dist,ι since,.slice Ac calls.length cc,.slice Au units.length cu,ι merged,.bool closed] 48))
 have HX:=ħ (zb.new w 48 #[ι id,ι urg,.string code,.slice An nodes.length cn,ι dist,ι since,.slice Ac calls.length cc,.slice Au units.length cu,ι merged,.bool closed])
 have HN:=ħ (((hn.old (by omega)).more (B':=fun k=>k<w.heap.size) (fun k hk=>hk.2)).alloc (.cells #[ι id,ι urg,.string code,.slice An nodes.length cn,ι dist,ι since,.slice Ac calls.length cc,.slice Au units.length cu,ι merged,.bool closed] 48))
 have HC:=ħ (((hc.old (by omega)).more (B':=fun k=>k<w.heap.size) (fun k hk=>hk.2)).alloc (.cells #[ι id,ι urg,.string code,.slice An nodes.length cn,ι dist,ι since,.slice Ac calls.length cc,.slice Au units.length cu,ι merged,.bool closed] 48))
 have HU:=ħ (((hu.old (by omega)).more (B':=fun k=>k<w.heap.size) (fun k hk=>hk.2)).alloc (.cells #[ι id,ι urg,.string code,.slice An nodes.length cn,ι dist,ι since,.slice Ac calls.length cc,.slice Au units.length cu,ι merged,.bool closed] 48))
 have HXS:=ħ hx
 have hlc:calls.length≤1000:=hx.callsL
 have tZ:=ħ (show w.heap.size<(w.alloc (.cells #[ι id,ι urg,.string code,.slice An nodes.length cn,ι dist,ι since,.slice Ac calls.length cc,.slice Au units.length cu,ι merged,.bool closed] 48)).heap.size by simp)
 clear hn hc hu hx
 go_enter Tryz.func63,Tryz.ntmps63
 go_upto_region 1 with (fail)
 generalize w.alloc _=W at *
 have HK:=ħ fun (W':World) (hb:Below W.heap.size W W')=>Rn (w:=W) (HX.out.below hb HX.out.lt)
 have K0:=HK.out _ (Below.refl _ W).drew
 have H72:=ħ (Wv _ Ac cc calls W.drew (HC.out.drew) (by omega))
 have nU:=ħ fun (W':World) (A6:Option Addr) (c6:Nat) (hb:Below W.heap.size W W') (hr:RI W' (fun k=>k<W'.heap.size) A6 calls)=>
  (show Calls Tryz.prog 108 #[.slice (some ⟨W'.heap.size,0,none⟩) 10 10] (W'.alloc (.cells ((TR ⟨id,urg,code,nodes,dist,since,calls,units,merged,closed⟩ An A6 Au cn c6 cu).flatMap SY).toArray 141)) (PO (Rx ⟨id,urg,code,nodes,dist,since,calls,units,merged,closed⟩) (W'.alloc (.cells ((TR ⟨id,urg,code,nodes,dist,since,calls,units,merged,closed⟩ An A6 Au cn c6 cu).flatMap SY).toArray 141))) from by
   have:=WU (fun k=>k=W'.heap.size) (some ⟨W'.heap.size,0,none⟩) 10 (TR ⟨id,urg,code,nodes,dist,since,calls,units,merged,closed⟩ An A6 Au cn c6 cu) (W'.alloc (.cells ((TR ⟨id,urg,code,nodes,dist,since,calls,units,merged,closed⟩ An A6 Au cn c6 cu).flatMap SY).toArray 141)) (Reads.newS W' _ 141 (0,0) 10 5 rfl _ rfl) (show 10≤20 by decide) (WE HXS.out (((HN.out.below hb (fun k hk=>Nat.lt_trans hk tZ.out)).alloc _).more (fun k hk=>by have:=hb.size;have:=tZ.out;simp;omega)) ((hr.alloc _).more (fun k hk=>by simp;omega)) (((HU.out.below hb (fun k hk=>Nat.lt_trans hk tZ.out)).alloc _).more (fun k hk=>by have:=hb.size;have:=tZ.out;simp;omega)))
   rw[TM] at this
   exact this)
 simp only[TR,SY,List.flatMap_cons,List.flatMap_nil,List.cons_append,List.nil_append,List.append_nil,List.length_nil] at nU
 go_region_held (fun w'=>w'.cell? ⟨w.heap.size,0,none⟩=some (ι id)∧w'.cell? ⟨w.heap.size,1,none⟩=some (ι urg)∧w'.cell? ⟨w.heap.size,2,none⟩=some (.string code)∧w'.cell? ⟨w.heap.size,3,none⟩=some (.slice An nodes.length cn)∧w'.cell? ⟨w.heap.size,4,none⟩=some (ι dist)∧w'.cell? ⟨w.heap.size,5,none⟩=some (ι since)∧w'.cell? ⟨w.heap.size,6,none⟩=some (.slice Ac calls.length cc)∧w'.cell? ⟨w.heap.size,7,none⟩=some (.slice Au units.length cu)∧w'.cell? ⟨w.heap.size,8,none⟩=some (ι merged)∧w'.cell? ⟨w.heap.size,9,none⟩=some (.bool closed)) (first | assumption | exact K0 | exact HK.out _ (B2.alloc B2.size _)) (first
  | (go_at_call 109;((with_reducible refine H72.out.mono ?_);rintro e w2 ⟨A6,c6,rfl,ho2,hb2⟩;have B2:=((Below.refl W.heap.size W).drew).trans hb2;have zk:=ħ ho2;clear ho2 hb2;have PL:=HK.out _ B2))
  | (go_at_call 108;((with_reducible refine (nU.out w2 A6 c6 B2 ((Ke zk.out).old (by omega) |>.more (fun k hk=>hk.2))).mono ?_);rintro e w3 ⟨A7,c7,rfl,ho3,hb3⟩;have B3:=(B2.alloc B2.size _).trans (hb3.mono (by have:=B2.size;simp;omega));have zC:=ħ ho3;have hs3:=B2.size;clear ho3 hb3;have Pk:=HK.out _ B3)))
 all_goals
  go_wp2_with fail
  go_ret
  have:=tZ.out
  exact ⟨A7,c7,rfl,World.ownsRow.mono zC.out (by simp;omega),HW.out.trans (B3.mono (by omega))⟩
end Go.Proofs.YtdhcjhfgibmhfaaGreatDoor
namespace Go.Inc
open Go.Wire
theorem SG:∀ (u:Nat),Bytes (Rv u):=by
 intro u
 induction u using Nat.strongRecOn with
 | ind u ih=>
  intro b hb
  by_cases h:u<128
  ·rw[Rz h] at hb;simp at hb;omega
  ·rw[R_ h] at hb
   rcases List.mem_cons.1 hb with rfl | hb
   ·omega
   ·exact ih (u / 128) (by omega) b hb
theorem Bytes.app {a b:List Int}(ha:Bytes a)(hb:Bytes b):Bytes (a ++ b):=fun x hx=>by
 rcases List.mem_append.1 hx with h | h
 ·exact ha x h
 ·exact hb x h
theorem PP (n:Int):Bytes (z01 n):=SG _
theorem Re (l:List Int):Bytes (encIs l):=by
 unfold encIs
 refine Bytes.app (PP _) (fun b hb=>?_)
 obtain ⟨x,-,h⟩:=List.mem_flatMap.1 hb
 exact PP x b h
theorem Sz (s:ByteArray):Bytes (z0d s):=Bytes.app (PP _) (SF s)
theorem SH (b:Bool):Bytes (encB b):=by
 intro x hx
 unfold encB at hx
 cases b <;> simp at hx <;> omega
theorem RJ (x:Ic):Bytes (Rx x):=by
 unfold Rx
 exact Bytes.app (PP _) (Bytes.app (PP _) (Bytes.app (Sz _) (Bytes.app (Re _) (Bytes.app (PP _) (Bytes.app (PP _) (Bytes.app (Re _) (Bytes.app (Re _) (Bytes.app (PP _) (SH _)))))))))
end Go.Inc
namespace Go.Proofs.YtdhcjhfgibmhfaaGreatDoor
open Go.RowKit Go.Own Go.Quo Go.Inc Go.Wire
end Go.Proofs.YtdhcjhfgibmhfaaGreatDoor
