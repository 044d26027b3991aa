import Derived.Test.YtdfobfjpkjddpaaGreatUG32
import Derived.Test.YtdfobfjpkjddpaaGreatUG0
set_option linter.unusedVariables false
set_option linter.unusedSimpArgs false
set_option maxRecDepth 100000
namespace Go.Proofs.YtdfobfjpkjddpaaGreat
open Go.RowKit Go.Own Go.Quo Go.Wire Go.Raft
section
variable {H:Type} {enc:TypeId × Value→H} {w:World}
theorem oc48:Tryz.prog.cellsOf 48=4:=by kernel_rfl
theorem oc40:Tryz.prog.cellsOf 40=2:=by kernel_rfl
theorem oc46:Tryz.prog.cellsOf 46=1:=by kernel_rfl
theorem oc5:Tryz.prog.cellsOf 5=1:=by kernel_rfl
theorem ou8 {n:Int}(h:(Lit.int .u8 n).wf=true):0≤n∧n<256:=by
 have:0≤n∧n≤255:=by simpa [Lit.wf,IntKind.min,IntKind.max,IntKind.signed,IntKind.bits] using h
 omega
theorem ou8n {n:Int}(h:(Lit.int .u8 n).wf=true):∃ k:Nat,n=(k:Int)∧k<256:=by
 have:=ou8 h
 exact ⟨n.toNat,by omega,by omega⟩
theorem open_st (es:List Value)(h:Rdy enc Tryz.prog w 48 es):∃ x:TV,es=tvL x∧TOk w x:=by
 obtain ⟨hl,hf⟩:=h.struct Tryz.underlying48
 rw[oc48] at hl
 match es,hl with
 | [e0,e1,e2,e3],_=>
  have f0:Rdy enc Tryz.prog w 5 (([e0,e1,e2,e3].drop 0).take (Tryz.prog.cellsOf 5)):=hf 0 _ rfl
  have f1:Rdy enc Tryz.prog w 5 (([e0,e1,e2,e3].drop 1).take (Tryz.prog.cellsOf 5)):=hf 1 _ rfl
  have f2:Rdy enc Tryz.prog w 5 (([e0,e1,e2,e3].drop 2).take (Tryz.prog.cellsOf 5)):=hf 2 _ rfl
  have f3:Rdy enc Tryz.prog w 46 (([e0,e1,e2,e3].drop 3).take (Tryz.prog.cellsOf 46)):=hf 3 _ rfl
  rw[oc5] at f0 f1 f2
  rw[oc46] at f3
  obtain ⟨n0,h0,w0⟩:=f0.int Tryz.underlying5
  obtain ⟨n1,h1,w1⟩:=f1.int Tryz.underlying5
  obtain ⟨n2,h2,w2⟩:=f2.int Tryz.underlying5
  obtain ⟨A,c,bs,h3,-,-,r3,w3⟩:=f3.ints Tryz.underlying46 Tryz.underlying5 oc5
  obtain ⟨k0,rfl,q0⟩:=ou8n w0
  obtain ⟨k1,rfl,q1⟩:=ou8n w1
  obtain ⟨k2,rfl,q2⟩:=ou8n w2
  simp at h0 h1 h2 h3
  subst h0 h1 h2 h3
  exact ⟨⟨k0,k1,k2,A,c,bs⟩,rfl,r3.more (fun _ _=>trivial),fun x hx=>ou8 (w3 x hx),q0,q1,q2⟩
theorem open_sts {v:Value}{d:DataW H}{p:List MemPlace}(h:DataW.Trod enc Tryz.prog w 0 (fun _=>true) true 41 v d p){A:Option Addr}{n c:Nat}(hv:v=.slice A n c):∃ l:List TV,n=l.length∧Reads w (fun _=>True) 4 A l.length (l.flatMap tvL)∧∀ x∈l,TOk w x:=by
 subst hv
 obtain ⟨A',c',l,e,h2,h3,h4,h5⟩:=(Rdy.of_trod h).rows Tryz.underlying41 oc48 (by omega) tvL tvL_len (TOk w) open_st
 simp[Value.cells] at e
 obtain ⟨rfl,rfl,rfl⟩:=e
 exact ⟨l,rfl,h4.more (fun _ _=>trivial),h5⟩
theorem open_pa {b0:Nat}{r:Reach}{v:Value}{d:DataW H}{p:List MemPlace}(hv:Value.okWide Tryz.prog w r b0 40 v)(h:DataW.Trod enc Tryz.prog w 0 (fun _=>true) true 40 v d p):∃ a b:Nat,v=.agg #[.int .u8 (a:Int),.int .u8 (b:Int)]∧a<256∧b<256:=by
 obtain ⟨cs,rfl,hsz⟩:∃ cs,v=.agg cs∧cs.size=Tryz.prog.cellsOf 40:=by
  simp only[Value.okWide,Tryz.underlying40] at hv
  obtain ⟨cs,h1,h2,_⟩:=hv
  exact ⟨cs,h1,h2⟩
 have h1:=Rdy.of_trod h
 obtain ⟨-,hf⟩:=h1.array Tryz.underlying40
 rw[oc40] at hsz
 obtain ⟨l⟩:=cs
 match l,hsz with
 | [e0,e1],_=>
  have f0:=hf 0 (by omega)
  have f1:=hf 1 (by omega)
  rw[oc5] at f0 f1
  obtain ⟨n0,k0,w0⟩:=f0.int Tryz.underlying5
  obtain ⟨n1,k1,w1⟩:=f1.int Tryz.underlying5
  obtain ⟨a,rfl,qa⟩:=ou8n w0
  obtain ⟨b,rfl,qb⟩:=ou8n w1
  simp[Value.cells] at k0 k1
  subst k0 k1
  exact ⟨a,b,rfl,qa,qb⟩
end
end Go.Proofs.YtdfobfjpkjddpaaGreat
