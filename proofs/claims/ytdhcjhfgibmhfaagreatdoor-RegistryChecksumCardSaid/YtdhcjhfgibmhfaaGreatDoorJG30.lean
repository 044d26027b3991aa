import Derived.Test.YtdhcjhfgibmhfaaGreatDoorJG27
import Derived.Test.YtdhcjhfgibmhfaaGreatDoorJG29
set_option linter.unusedVariables false
set_option linter.unusedSimpArgs false
namespace Go.Proofs.YtdhcjhfgibmhfaaGreatDoor
open Go.RowKit Go.Own Go.Quo Go.Inc
theorem P_ {l:List Av}(h:Qm l=true):(∀ a∈l,a.t.c.nodes.length≤60)∧l.length≤40:=by
 unfold Qm at h
 simp only[Bool.and_eq_true,decide_eq_true_eq,List.all_eq_true] at h
 refine ⟨fun a ha=>?_,h.2⟩
 have:=h.1 a ha
 unfold jU at this
 simp only[Bool.and_eq_true,decide_eq_true_eq] at this
 exact this.1
structure LP (w W:World) (p mc mi mh q:Nat) (b:Bk) (v:Bv):Prop where
 pi:PI W p mc mi mh b
 bv:zX W (fun j=>Bq p mc mi mh j∧j≠q) v
 x:zb W q 29 (β v)
 be:Below w.heap.size w W
 go:Good 60 b
 ta:jg W
 lo:w.heap.size≤p∧w.heap.size≤mc∧w.heap.size≤mi∧w.heap.size≤mh∧w.heap.size≤q
 ne:Bq p mc mi mh q
section
variable {w W W':World} {p mc mi mh q:Nat} {b:Bk} {v:Bv}
theorem LP.below (h:LP w W p mc mi mh q b v)(hb:Below W.heap.size W W'):LP w W' p mc mi mh q b v:=
 ⟨h.pi.below hb,h.bv.below hb,h.x.below hb h.x.lt,h.be.trans (hb.mono h.be.size),h.go,h.ta.below hb h.ta.lt,h.lo,h.ne⟩
theorem LP.new {w2:World}(hbk:v.bk=b)(hpi:PI w2 p mc mi mh b)(hbv:zX w2 (Bq p mc mi mh) v)(hpl:w.heap.size≤p∧w.heap.size≤mc∧w.heap.size≤mi∧w.heap.size≤mh)(hb:Below w.heap.size w w2)(hg:Good 40 b)(ht:jg w) :
 LP w (w2.alloc (.cells (β v) 29)) p mc mi mh w2.heap.size b v:=
 ⟨hpi.alloc _,(hbv.old.more (fun j hj=>⟨hj.1,by have:=hj.2;omega⟩)).alloc _,zb.new w2 29 (β v),hb.alloc hb.size _,zg.mono hg (by omega),(ht.below hb ht.lt).below ((Below.refl _ w2).alloc (Nat.le_refl _) _) (ht.below hb ht.lt).lt,⟨hpl.1,hpl.2.1,hpl.2.2.1,hpl.2.2.2,hb.size⟩,by have:=hpi.lt;unfold Bq;omega⟩
theorem LP.awake (h:LP w W p mc mi mh q b v):Calls Tryz.prog 12 #[] W (qX true W):=UX W h.ta
theorem LP.cells (h:LP w W p mc mi mh q b v):W.cell? ⟨q,0,none⟩=some (.slice v.AL v.la.length v.cL)∧W.cell? ⟨q,1,none⟩=some (.slice v.AC v.lc.length v.cC):=⟨h.x.cell 0,h.x.cell 1⟩
theorem Ru {n:Nat}(hn:n≤1000)(h:Good n b){x:Ic}(hx:x∈b.L):IcS x:=by
 have h1:=zg.vL h x hx
 have h2:=yO h1.1
 have h3:x.calls.length≤1000:=by
  rw[Good.cs h x hx,List.length_map]
  have:(qB b.C x.id).length≤b.C.length:=List.length_filter_le _ _
  have:=zg.nC h;omega
 have hc:=(ku h1.1).2.2.2.2.1
 obtain ⟨⟨a1,a2⟩,⟨a3,a4⟩,r8,b9,-,b2,b6,r4,r7⟩:=ku h1.1
 exact ⟨⟨by omega,by omega⟩,b2,hc,r4,by omega,⟨by omega,by omega⟩,b6,r7,h3,r8,by omega,b9⟩
theorem Wt {t:Cr}(h:yz t=true)(hl:t.nodes.length≤1000):TA t:=by
 obtain ⟨a,b,c,d,e⟩:=DI h
 unfold yz zQ yK Qo at h
 simp at h
 obtain ⟨⟨⟨a3,a4⟩,a5,a6⟩,⟨⟨⟨⟨⟨⟨⟨⟨b1,b2⟩,b3⟩,b4⟩,b5⟩,b6⟩,b7⟩,b8⟩,b9⟩⟩:=h
 exact ⟨⟨by omega,by omega⟩,⟨by omega,by omega⟩,⟨by omega,by omega⟩,by omega,hl,d,⟨by omega,by omega⟩,⟨by omega,by omega⟩⟩
theorem SE {n:Nat}(h:Good n b){t:Cr}(ht:t∈b.C):TA t:=by
 obtain ⟨h1,h2⟩:=zg.vC h t ht
 exact Wt h1 (by omega)
end
end Go.Proofs.YtdhcjhfgibmhfaaGreatDoor
