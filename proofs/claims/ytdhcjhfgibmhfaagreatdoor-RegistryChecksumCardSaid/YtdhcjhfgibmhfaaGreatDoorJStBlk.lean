import Derived.Test.YtdhcjhfgibmhfaaGreatDoorJG4
set_option linter.unusedVariables false
set_option linter.unusedSimpArgs false
namespace Go.Own
open Go.RowKit
theorem KW {P:Program}{w:World}{o:Oper}{a:Act}{K:Act→World→Prop}{Q:Exit→Act→World→Prop}(ad v:Operand)(T:TypeId)(hop:o.op=.store T ad v)
 (g:Nat) (t:TypeId) (cs cs':Array Value) (z:Value) (size bytes:Nat) (hi:(P.info? T).map (fun i=>(i.zero,i.size,i.bytes))=some (some z,size,bytes)) (ha:a.eval ad=.pointer (some ⟨g,0,none⟩)) (hv:a.eval v=.agg cs') (hsz:size=cs'.size) (hb:zb w g t cs) (hl:cs.size=cs'.size) (h1:∀ u∈cs'.toList,u.oneCell'=true)
 (hK:∀ w',zb w' g t cs'→Fr (fun k=>k=g) w w'→w'.heap.size=w.heap.size→K (a.put o.dst undef) w'):o.wp P a w K Q:=by
 obtain ⟨i,hi,-,hi2,-⟩:=info_parts hi
 unfold Oper.wp
 have hrun:=YG (P:=P) (T:=T) hi (hi2.trans hsz) hb hl h1
 simp[execOp,hop,ha,hv,hrun,Result.andThen]
 exact hK _ (hb.setRow cs') ((Fr.refl (fun k=>k=g) _).setRow (.inl rfl) _) (by simp)
theorem zf {P:Program}(w:World){ops:Array Oper}{o:Oper}{a:Act}{K:Act→World→Prop}{Q:Exit→Act→World→Prop}{E:Prop}(hgd:o.guard=none)(ad v:Operand)(T:TypeId)(hop:o.op=.store T ad v)
 (g:Nat) (t:TypeId) (cs cs':Array Value) (z:Value) (size bytes:Nat) (hi:(P.info? T).map (fun i=>(i.zero,i.size,i.bytes))=some (some z,size,bytes)) (ha:a.eval ad=.pointer (some ⟨g,0,none⟩)) (hv:a.eval v=.agg cs') (hsz:size=cs'.size) (hb:zb w g t cs) (hl:cs.size=cs'.size) (h1:∀ u∈cs'.toList,u.oneCell'=true)
 (hK:∀ w',zb w' g t cs'→Fr (fun k=>k=g) w w'→w'.heap.size=w.heap.size→K (a.put o.dst undef) w') :
 if Region.wanted o (yielded ops a.tmps)=true then Oper.wp P o a w K Q else E:=by
 have hw:Region.wanted o (yielded ops a.tmps)=true:=by simp[Region.wanted,hgd]
 rw[if_pos hw]
 exact KW ad v T hop g t cs cs' z size bytes hi ha hv hsz hb hl h1 hK
theorem Fr.trans_ {S T:Nat→Prop}{a b c:World}(h:Fr S a b)(k:Fr T b c)(hT:∀ i,T i→S i∨a.heap.size≤i):Fr S a c:=
 ⟨k.os.trans h.os,k.tape.trans h.tape,k.output.trans h.output,Nat.le_trans h.size k.size,fun i hi hn=>(k.block i (Nat.lt_of_lt_of_le hi h.size) (fun ht=>by
  rcases hT i ht with h1 | h1
  ·exact hn h1
  ·omega)).trans (h.block i hi hn)⟩
end Go.Own
