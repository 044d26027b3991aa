import Derived.Test.YtdhcjhfgibmhfaaGreatDoorKG2
import Derived.Test.YtdhcjhfgibmhfaaGreatDoorKPr17
import Derived.Test.YtdhcjhfgibmhfaaGreatDoorKG21
import Derived.Laws.MakeOwn
set_option linter.unusedVariables false
set_option linter.unusedSimpArgs false
set_option maxRecDepth 10000
set_option maxHeartbeats 8000000
namespace Go.Proofs.YtdhcjhfgibmhfaaGreatDoor
open Go.RowKit Go.Own Go.Quo Go.Inc Go.Maps Go.Sort Go.Shelf
open Go.WideElems (Fit rd rg)
theorem Tw (m:Nat):AnyZI.SortsIn Tryz.prog Tryz.sortedA_ren Fence.wide m:=
 ⟨fun blk off cap ss W hH hblk hsz=>callsIn_wide.2 (AnyM.slices_Sort_int Tryz.sortA blk off cap ss W hH hblk hsz),
  fun p cap W=>callsIn_wide.2 (AnyM.slices_Sort_int_none Tryz.sortA p cap W)⟩
def RU:Value→Option (DataW Unit × List MemPlace):=fun _=>some (.nil,[])
theorem insert_perm (x:Lit × DataW Unit):∀ l,(DataW.insert x l).Perm (x :: l)
 | []=>List.Perm.refl _
 | y :: r=>by
  unfold DataW.insert
  split
  ·exact List.Perm.refl _
  ·exact ((insert_perm x r).cons y).trans (List.Perm.swap x y r)
theorem Rm:∀ l:List (Lit × DataW Unit),(l.foldr DataW.insert []).Perm l
 | []=>List.Perm.refl _
 | x :: r=>(insert_perm x _).trans ((Rm r).cons x)
theorem Rq {P:Program}{kt:TypeId}(hP:P.underlying kt=some (.int .i64)){w:World}{m:Nat}{qg:List (Int × Value)}(h:zF w m .i64 qg)(hnd:(qg.map (·.1)).Nodup)(hwf:∀ p∈qg,(Lit.int .i64 p.1).wf=true)(hl:qg.length≤maxLen) :
 ∃ D0:DataW Unit,w.ownsMap P kt RU m qg.length D0∧(intKeys D0).Perm (qg.map (·.1))∧Maps.size D0=qg.length:=by
 obtain ⟨es,clock,hm,he,hb,hlt⟩:=h
 have hkey:∀ p∈qg,keyOf P kt (.int .i64 p.1)=some (.int .i64 p.1):=fun p hp=>keyOf_int_mk hP (hwf p hp)
 have hks:es.toList.map (·.key)=qg.map (fun p=>Value.int .i64 p.1):=by
  have:=congrArg (List.map Prod.fst) he
  simpa [List.map_map,Function.comp_def] using this
 have hrg:es.toList.map (rg P kt RU)=qg.map (fun p=>(Lit.int .i64 p.1,(DataW.nil:DataW Unit))):=by
  have e1:es.toList.map (rg P kt RU)=(es.toList.map (·.key)).map (fun k=>((keyOf P kt k).bind fun key=>some (key,(DataW.nil:DataW Unit))).getD (.bool false,.nil)):=by
   rw[List.map_map]
   rfl
  rw[e1,hks,List.map_map]
  refine List.map_congr_left (fun p hp=>?_)
  show ((keyOf P kt (.int .i64 p.1)).bind fun key=>some (key,(DataW.nil:DataW Unit))).getD (.bool false,.nil)=_
  rw[hkey p hp];rfl
 have hsz:es.size=qg.length:=by
  have:=congrArg List.length hks
  simpa using this
 have hF:Fit P kt RU es clock:=by
  refine ⟨by omega,⟨hlt,hb,?_⟩,fun x hx=>?_⟩
  ·rw[hks]
   rw[List.Nodup,List.pairwise_map] at hnd⊢
   exact hnd.imp (fun hne e=>hne (by simpa using e))
  ·have hk:x.key∈es.toList.map (·.key):=List.mem_map_of_mem hx
   rw[hks] at hk
   obtain ⟨p,hp,e⟩:=List.mem_map.1 hk
   refine ⟨(.int .i64 p.1,.nil),?_⟩
   unfold WideElems.rd
   rw[←e,hkey p hp];rfl
 refine ⟨.map ((es.toList.map (rg P kt RU)).foldr DataW.insert []),⟨es,clock,hm,hF,by omega,rfl⟩,?_,?_⟩
 ·rw[hrg]
  unfold intKeys
  refine ((Rm _).map _).trans ?_
  rw[List.map_map]
  exact List.Perm.refl _
 ·rw[hrg]
  have:=(Rm (qg.map (fun p=>(Lit.int .i64 p.1,(DataW.nil:DataW Unit))))).length_eq
  show List.length _=_
  rw[this];simp
theorem Sy (mb:Option Nat)(W:World):Calls Tryz.prog 65 #[.map mb] W fun e w'=>e=.returned (.func (.func 112) #[] #[.pointer (some ⟨W.heap.size,0,none⟩)])∧w'=W.alloc (.cells #[.map mb] 85):=
 callsIn_wide.1 (AnyZI.keys_in Tryz.keysC Fence.wide 5 trivial rfl mb W)
theorem RX {w:World}{m:Nat}{qg:List (Int × Value)}(h:zF w m .i64 qg)(hnd:(qg.map (·.1)).Nodup)(hwf:∀ p∈qg,(Lit.int .i64 p.1).wf=true)(hl:qg.length≤1000) :
 Calls Tryz.prog 64 #[.func (.func 112) #[] #[.pointer (some ⟨w.heap.size,0,none⟩)]] (w.alloc (.cells #[.map (some m)] 85)) fun e w'=>∃ (v:Value) (ss:List Int),e=.returned v∧ss.Perm (qg.map (·.1)) ∧
  w'.ownsRow (w.heap.size+1) 2 1 v ss.length ((ss.mergeSort (fun x y=>decide (x≤y))).map (Value.int .i64))∧Below (w.heap.size+1) (w.alloc (.cells #[.map (some m)] 85)) w':=by
 obtain ⟨D0,hown,hp,hs⟩:=Rq (P:=Tryz.prog) Tryz.underlying2 h hnd hwf (by simp only[maxLen];omega)
 have hbl:=hown.lt
 have hseq:SeqGives Fence.wide 2 Tryz.prog 112 #[.pointer (some ⟨w.heap.size,0,none⟩)] encZ (fun ss=>ss.Perm (intKeys D0)) (Maps.size D0) (w.alloc (.cells #[.map (some m)] 85)):=
  AnyZI.keys_gives (ρ:=Tryz.keysC_ren) { Tryz.keysC with } Fence.wide _ trivial rfl (by omega) w.heap.size m qg.length D0 _ (by simp) (by simp) (by
   obtain ⟨es,clock,hb,Ft,hs,hD⟩:=hown
   exact ⟨es,clock,(Below.heap_alloc _ _ m hbl).trans hb,Ft,hs,hD⟩)
 have cS:=AnyZI.sorted_in Tryz.sortedA Fence.wide 5 trivial trivial trivial trivial rfl (by omega) (Tw _) (enters_of Tryz.func111 (by kernel_rfl) rfl) 112 #[.pointer (some ⟨w.heap.size,0,none⟩)] trivial (enters_of Tryz.func112 (by kernel_rfl) rfl) _ _ (by rw[hs];simp only[maxLen];omega) (by rw[hs];omega) _ hseq
 change CallsIn _ _ Tryz.prog 64 _ _ _ at cS
 refine (callsIn_wide.1 cS).mono ?_
 rintro e w' ⟨v,ss,rfl,hS,hrow,hnil,hb⟩
 have hsz:(w.alloc (.cells #[.map (some m)] 85)).heap.size=w.heap.size+1:=by simp
 rw[hsz] at hrow hb
 exact ⟨v,ss,rfl,hS.trans hp,hrow,hb⟩
theorem RL (mb:Option Nat)(W:World):Calls Tryz.prog 67 #[.map mb] W fun e w'=>e=.returned (.func (.func 117) #[] #[.pointer (some ⟨W.heap.size,0,none⟩)])∧w'=W.alloc (.cells #[.map mb] 86):=
 callsIn_wide.1 (AnyZI.keys_in Tryz.keysI Fence.wide 5 trivial rfl mb W)
theorem Sd {w:World}{m:Nat}{qg:List (Int × Value)}(h:zF w m .i64 qg)(hnd:(qg.map (·.1)).Nodup)(hwf:∀ p∈qg,(Lit.int .i64 p.1).wf=true)(hl:qg.length≤1000) :
 Calls Tryz.prog 64 #[.func (.func 117) #[] #[.pointer (some ⟨w.heap.size,0,none⟩)]] (w.alloc (.cells #[.map (some m)] 86)) fun e w'=>∃ (v:Value) (ss:List Int),e=.returned v∧ss.Perm (qg.map (·.1)) ∧
  w'.ownsRow (w.heap.size+1) 2 1 v ss.length ((ss.mergeSort (fun x y=>decide (x≤y))).map (Value.int .i64))∧Below (w.heap.size+1) (w.alloc (.cells #[.map (some m)] 86)) w':=by
 obtain ⟨D0,hown,hp,hs⟩:=Rq (P:=Tryz.prog) Tryz.underlying2 h hnd hwf (by simp only[maxLen];omega)
 have hbl:=hown.lt
 have hseq:SeqGives Fence.wide 2 Tryz.prog 117 #[.pointer (some ⟨w.heap.size,0,none⟩)] encZ (fun ss=>ss.Perm (intKeys D0)) (Maps.size D0) (w.alloc (.cells #[.map (some m)] 86)):=
  AnyZI.keys_gives (ρ:=Tryz.keysI_ren) { Tryz.keysI with } Fence.wide _ trivial rfl (by omega) w.heap.size m qg.length D0 _ (by simp) (by simp) (by
   obtain ⟨es,clock,hb,Ft,hs,hD⟩:=hown
   exact ⟨es,clock,(Below.heap_alloc _ _ m hbl).trans hb,Ft,hs,hD⟩)
 have cS:=AnyZI.sorted_in Tryz.sortedA Fence.wide 5 trivial trivial trivial trivial rfl (by omega) (Tw _) (enters_of Tryz.func111 (by kernel_rfl) rfl) 117 #[.pointer (some ⟨w.heap.size,0,none⟩)] trivial (enters_of Tryz.func117 (by kernel_rfl) rfl) _ _ (by rw[hs];simp only[maxLen];omega) (by rw[hs];omega) _ hseq
 change CallsIn _ _ Tryz.prog 64 _ _ _ at cS
 refine (callsIn_wide.1 cS).mono ?_
 rintro e w' ⟨v,ss,rfl,hS,hrow,hnil,hb⟩
 have hsz:(w.alloc (.cells #[.map (some m)] 86)).heap.size=w.heap.size+1:=by simp
 rw[hsz] at hrow hb
 exact ⟨v,ss,rfl,hS.trans hp,hrow,hb⟩
theorem Tf {n:Int}(h:1≤n∧n≤1099511627776):(Lit.int .i64 n).wf=true:=by
 simp[Lit.wf,IntKind.min,IntKind.max,IntKind.bits,IntKind.signed]
 omega
theorem keys_perm {qg:List (Int × Value)}{l:List Int}(hn:(qg.map (·.1)).Nodup)(hl:l.Nodup)(h:∀ k,k∈l↔(zn qg k).isSome=true):(qg.map (·.1)).Perm l:=by
 rw[List.perm_ext_iff_of_nodup hn hl]
 intro k
 rw[h]
 cases hg:zn qg k with
 | none=>exact ⟨fun hk=>absurd hk (T9 hg),fun hk=>by simp at hk⟩
 | some v=>exact ⟨fun _=>rfl,fun _=>G8 hg⟩
theorem Sb {w:World}{B:Nat→Prop}{qg:List (Int × Value)}{L:List Ic}(h:IM w B qg L)(hs:Asc Ic.id L):(qg.map (·.1)).Perm (L.map Ic.id):=
 keys_perm h.nd (jm Ic.id hs) (fun k=>by
  rw[List.mem_map]
  constructor
  ·rintro ⟨x,hx,rfl⟩
   obtain ⟨a,-,h1,-⟩:=h.at_ x hx
   rw[h1];rfl
  ·intro hk
   by_cases hx:∃ x∈L,x.id=k
   ·exact hx
   ·rw[h.no k (fun x hx2 e=>hx ⟨x,hx2,e⟩)] at hk
    simp at hk)
theorem SQ {w:World}{B:Nat→Prop}{qg:List (Int × Value)}{C:List Cr}(h:CM w B qg C)(hs:Asc Cr.call C):(qg.map (·.1)).Perm (C.map Cr.call):=
 keys_perm h.nd (jm Cr.call hs) (fun k=>by
  rw[List.mem_map]
  constructor
  ·rintro ⟨x,hx,rfl⟩
   obtain ⟨A,n,h1,-⟩:=h.at_ x hx
   rw[h1];rfl
  ·intro hk
   by_cases hx:∃ x∈C,x.call=k
   ·exact hx
   ·rw[h.no k (fun x hx2 e=>hx ⟨x,hx2,e⟩)] at hk
    simp at hk)
theorem Su {l k:List Int}(hp:l.Perm k)(hk:k.Pairwise (fun a b=>a<b)):l.mergeSort (fun x y=>decide (x≤y))=k:=Hz hp (hk.imp (fun h=>by omega))
theorem Sc {L:List Ic}(h:Asc Ic.id L):(L.map Ic.id).Pairwise (fun a b=>a<b):=by
 rw[List.pairwise_map];exact h
theorem SN {w w0:World}{m:Nat}{qg:List (Int × Value)}{B:Nat→Prop}{L:List Ic}(h:zF w m .i64 qg)(hi:IM w0 B qg L)(hs:Asc Ic.id L)(hl:L.length≤1000)(hv:∀ x∈L,jC x=true) :
 Calls Tryz.prog 64 #[.func (.func 117) #[] #[.pointer (some ⟨w.heap.size,0,none⟩)]] (w.alloc (.cells #[.map (some m)] 86)) fun e w'=>∃ (A:Option Addr) (c:Nat),e=.returned (.slice A L.length c) ∧
  w'.ownsRow (w.heap.size+1) 2 1 (.slice A L.length c) L.length ((L.map Ic.id).map (Value.int .i64))∧Below (w.heap.size+1) (w.alloc (.cells #[.map (some m)] 86)) w':=by
 have hp:=Sb hi hs
 have hlen:qg.length=L.length:=by have:=hp.length_eq;simpa using this
 refine (Sd h hi.nd (fun p hpm=>?_) (by omega)).mono ?_
 ·obtain ⟨x,hx,e⟩:=List.mem_map.1 (hp.mem_iff.1 (List.mem_map.2 ⟨p,hpm,rfl⟩))
  rw[←e]
  exact Tf (Va (hv x hx))
 ·rintro e w' ⟨v,ss,rfl,hss,hown,hb⟩
  have hsl:ss.length=L.length:=by have:=(hss.trans hp).length_eq;simpa using this
  rw[Su (hss.trans hp) (Sc hs),hsl] at hown
  have hv:∃ A c,v=.slice A L.length c:=by
   rcases hown.2 with ⟨rfl,h0⟩ | ⟨g,cap,cur,rfl,_⟩
   ·exact ⟨none,0,by rw[h0]⟩
   ·exact ⟨_,_,rfl⟩
  obtain ⟨A,c,rfl⟩:=hv
  exact ⟨A,c,rfl,hown,hb⟩
theorem TW {w w0:World}{m:Nat}{qg:List (Int × Value)}{B:Nat→Prop}{C:List Cr}(h:zF w m .i64 qg)(hi:CM w0 B qg C)(hs:Asc Cr.call C)(hl:C.length≤1000)(hv:∀ x∈C,yz x=true) :
 Calls Tryz.prog 64 #[.func (.func 112) #[] #[.pointer (some ⟨w.heap.size,0,none⟩)]] (w.alloc (.cells #[.map (some m)] 85)) fun e w'=>∃ (A:Option Addr) (c:Nat),e=.returned (.slice A C.length c) ∧
  w'.ownsRow (w.heap.size+1) 2 1 (.slice A C.length c) C.length ((C.map Cr.call).map (Value.int .i64))∧Below (w.heap.size+1) (w.alloc (.cells #[.map (some m)] 85)) w':=by
 have hp:=SQ hi hs
 have hlen:qg.length=C.length:=by have:=hp.length_eq;simpa using this
 refine (RX h hi.nd (fun p hpm=>?_) (by omega)).mono ?_
 ·obtain ⟨x,hx,e⟩:=List.mem_map.1 (hp.mem_iff.1 (List.mem_map.2 ⟨p,hpm,rfl⟩))
  rw[←e]
  exact Tf (UU (hv x hx))
 ·rintro e w' ⟨v,ss,rfl,hss,hown,hb⟩
  have hsl:ss.length=C.length:=by have:=(hss.trans hp).length_eq;simpa using this
  rw[Su (hss.trans hp) (QR hs),hsl] at hown
  have hv:∃ A c,v=.slice A C.length c:=by
   rcases hown.2 with ⟨rfl,h0⟩ | ⟨g,cap,cur,rfl,_⟩
   ·exact ⟨none,0,by rw[h0]⟩
   ·exact ⟨_,_,rfl⟩
  obtain ⟨A,c,rfl⟩:=hv
  exact ⟨A,c,rfl,hown,hb⟩
end Go.Proofs.YtdhcjhfgibmhfaaGreatDoor
namespace Go.Proofs.YtdhcjhfgibmhfaaGreatDoor
open Go.RowKit Go.Own Go.Quo Go.Inc
def OB (w wr:World)(A:Option Addr)(j:Nat):Prop:=w.heap.size≤j∧j<wr.heap.size∧(Value.slice A 0 0).ownBlock≠some j∧∀ i,wr.frozen? ⟨j,i,none⟩=false
theorem R7 (A:Option Addr)(n c:Nat):(Value.slice A n c).ownBlock=(Value.slice A 0 0).ownBlock:=by cases A <;> rfl
theorem z0N {w:World}{g:Nat}{e:TypeId}{size n:Nat}{v:Value}{xs:List Value}(h:w.ownsRow g e size v n xs){j:Nat}(hj:v.ownBlock=some j)(i:Nat):w.frozen? ⟨j,i,none⟩=false:=by
 rcases h.2 with ⟨rfl,-⟩ | ⟨q,cap,cur,rfl,-,hc,-⟩
 ·cases hj
 ·have:q=j:=Option.some.inj hj
  subst this
  simp[World.frozen?,hc]
theorem z0H {w':World}{g:Nat}{e:TypeId}{A:Option Addr}{c:Nat}{l:List Int}(h:w'.ownsRow g e 1 (.slice A l.length c) l.length (l.map (Value.int .i64))):RI w' (fun j=>g≤j∧∀ i,w'.frozen? ⟨j,i,none⟩=false) A l:=(Reads.of_own h).more (fun k hk=>⟨(h.lt k hk).1,z0N h hk⟩)
structure XL {α:Type} (f:α→List Value) (rows:α→List (Option Addr × List Int)) (ty size:Nat) (w wr:World) (A:Option Addr) (c:Nat) (xs:List α) (E:List (Option Addr × List Int)):Prop where
 ow:wr.ownsRow w.heap.size ty size (.slice A xs.length c) xs.length (xs.flatMap f)
 rw:∀ a∈xs,∀ r∈rows a,RI wr (OB w wr A) r.1 r.2
 ex:∀ r∈E,RI wr (OB w wr A) r.1 r.2
 be:Below w.heap.size w wr
section
variable {α:Type} {f:α→List Value} {rows:α→List (Option Addr × List Int)} {ty size:Nat} {w wr w2:World} {A:Option Addr} {c:Nat} {xs:List α} {E:List (Option Addr × List Int)}
theorem PN {l:List Int}{B:Option Addr}(h:RI wr (OB w wr A) B l)(hb:Below wr.heap.size wr w2):RI w2 (OB w w2 A) B l:=
 (zl h hb).more (fun k hk=>⟨hk.1,Nat.lt_of_lt_of_le hk.2.1 hb.size,hk.2.2.1,fun i=>(hb.frozen (p:=⟨k,i,none⟩) hk.2.1).trans (hk.2.2.2 i)⟩)
theorem XL.below (h:XL f rows ty size w wr A c xs E)(hb:Below wr.heap.size wr w2):XL f rows ty size w w2 A c xs E:=
 ⟨own_below h.ow hb (fun g hg=>(h.ow.lt g hg).2),fun a ha r hr=>PN (h.rw a ha r hr) hb,fun r hr=>PN (h.ex r hr) hb,h.be.trans (hb.mono h.be.size)⟩
theorem XL.more (h:XL f rows ty size w wr A c xs E){r:Option Addr × List Int}(hr:RI wr (OB w wr A) r.1 r.2):XL f rows ty size w wr A c xs (r :: E):=
 ⟨h.ow,h.rw,fun s hs=>by rcases List.mem_cons.1 hs with rfl | hs;exact hr;exact h.ex s hs,h.be⟩
theorem XL.own (h:XL f rows ty size w wr A c xs E){e:TypeId}{A2:Option Addr}{c2:Nat}{l:List Int}(hs:wr.heap.size≤w2.heap.size)(ho:w2.ownsRow wr.heap.size e 1 (.slice A2 l.length c2) l.length (l.map (Value.int .i64))):RI w2 (OB w w2 A) A2 l:=
 ((z0H ho).old (by omega)).more (fun k hk=>⟨Nat.le_trans h.be.size hk.1.1,hk.2,fun e=>by
  have h1:=(h.ow.lt k (by rw[R7];exact e)).2
  have:=hk.1.1
  omega,hk.1.2⟩)
theorem XL.app (h:XL f rows ty size w wr A c xs E)(a:α)(hr:∀ r∈rows a,RI wr (OB w wr A) r.1 r.2){A5:Option Addr}{c5:Nat}(hown:w2.ownsRow w.heap.size ty size (.slice A5 (xs.length+1) c5) (xs.length+1) (xs.flatMap f ++ f a))
 (hgr:wr.grownBy w2 (Value.slice A xs.length c).ownBlock) (hat:(Value.slice A5 (xs.length+1) c5).ownBlock=(Value.slice A xs.length c).ownBlock∨(Value.slice A5 (xs.length+1) c5).ownBlock=some wr.heap.size):XL f rows ty size w w2 A5 c5 (xs ++ [a]) E:=by
 rw[R7 A5,R7 A] at hat
 rw[R7 A] at hgr
 have hk:∀ {B:Option Addr} {l:List Int},RI wr (OB w wr A) B l→RI w2 (OB w w2 A5) B l:=fun h1=>
  (h1.grown hgr (fun k hk e=>hk.2.2.1 e.symm)).more (fun k hk=>⟨hk.1,Nat.lt_of_lt_of_le hk.2.1 hgr.size,fun e=>by
   rcases hat with h2 | h2
   ·exact hk.2.2.1 (h2 ▸ e)
   ·rw[h2] at e
    have e2:wr.heap.size=k:=Option.some.inj e
    have:=hk.2.1
    omega,fun i=>(World.frozen?_of_block (a:=⟨k,i,none⟩) (hgr.block k hk.2.1 (fun e=>hk.2.2.1 e.symm))).trans (hk.2.2.2 i)⟩)
 refine ⟨by rw[List.length_append,List.flatMap_append];simpa using hown,fun b hb r hrr=>?_,fun r hrr=>hk (h.ex r hrr),Below.grown h.be hgr h.be.size (fun j hj=>(h.ow.lt j (by rw[R7];exact hj)).1)⟩
 rcases List.mem_append.1 hb with hb | hb
 ·exact hk (h.rw b hb r hrr)
 ·have e:b=a:=by simpa using hb
  rw[e] at hrr
  exact hk (hr r hrr)
end
def PR (a:Xa):List (Option Addr × List Int):=[(a.An,a.x.nodes),(a.Ac,a.x.calls),(a.Au,a.x.units)]
def Rb (t:Ca):List (Option Addr × List Int):=[(t.A,t.c.nodes)]
theorem WK (m:Nat)(hm:m≤100000)(w:World):(Instr.makeSlice 26 (ι 0) (ι (m:Int))).run Tryz.prog w=.ok (.slice (some ⟨w.heap.size,0,none⟩) 0 m) (w.alloc (.cells (madeCells ζ (m * 10)) 48)):=by
 obtain ⟨i,hi,hz0,hz1,hz2⟩:=info_parts zJ
 have:=Y9 (P:=Tryz.prog) 26 48 i _ Tryz.underlying26 hi hz0 .i64 .i64 0 m (Nat.zero_le _) (by rw[hz2];omega) (by omega) w
 rw[hz1] at this
 exact this
def SL (l:List Ic)(w:World)(e:Ending)(w':World):Prop:=∃ (A:Option Addr) (c:Nat) (xs:List Xa),e=.returned (.slice A xs.length c)∧xs.map (fun a=>a.x)=l∧XL Yz PR 48 10 w w' A c xs []
def Ty (l:List Cr)(w:World)(e:Ending)(w':World):Prop:=∃ (A:Option Addr) (c:Nat) (xs:List Ca),e=.returned (.slice A xs.length c)∧xs.map (fun a=>a.c)=l∧XL qC Rb 34 8 w w' A c xs []
theorem XL.noex {α:Type}{f:α→List Value}{rows:α→List (Option Addr × List Int)}{ty size:Nat}{w wr:World}{A:Option Addr}{c:Nat}{xs:List α}{E:List (Option Addr × List Int)}(h:XL f rows ty size w wr A c xs E):XL f rows ty size w wr A c xs []:=⟨h.ow,h.rw,fun r hr=>by simp at hr,h.be⟩
theorem Wm {a:Xa}{w:World}{B:Nat→Prop}(h1:RI w B a.An a.x.nodes)(h2:RI w B a.Ac a.x.calls)(h3:RI w B a.Au a.x.units):∀ r∈PR a,RI w B r.1 r.2:=by
 intro r hr
 unfold PR at hr
 rcases List.mem_cons.1 hr with rfl | hr
 ·exact h1
 ·rcases List.mem_cons.1 hr with rfl | hr
  ·exact h2
  ·rcases List.mem_cons.1 hr with rfl | hr
   ·exact h3
   ·simp at hr
theorem Wh (p mc mi mh:Nat)(b:Bk)(w:World)(h:PI w p mc mi mh b)(hs:Asc Ic.id b.L)(hl:b.L.length≤1000)(hv:∀ x∈b.L,jC x=true∧x.nodes.length≤60) :
 Calls Tryz.prog 31 #[.pointer (some ⟨p,0,none⟩)] w (SL b.L w):=by
 obtain ⟨kc,ki,kh,hw,hc,hi,hh⟩:=h
 have FW:=ħ hw
 have QS:=ħ hi
 have lV:=ħ hl
 have HV:=ħ hv
 have HS:=ħ hs
 have hkl:ki.length=b.L.length:=by have:=(Sb hi hs).length_eq;simpa using this
 have hln:=fun (W:World) (ty:TypeId) (h:zF W mi .i64 ki)=>zF.length (P:=Tryz.prog) h Tryz.underlying86 ty
 have tu:=ħ fun (W:World)=>RL (some mi) W
 have WW:=ħ fun (W:World) (h:zF W mi .i64 ki)=>SN h hi hs hl (fun x hx=>(hv x hx).1)
 clear hc hi hh hl hv hs
 rw[hkl] at hln
 have hmk:=WK b.L.length (by have:=lV.out;omega)
 have HX0:=ħ (show XL Yz PR 48 10 w (w.alloc (.cells (madeCells ζ (b.L.length * 10)) 48)) (some ⟨w.heap.size,0,none⟩) b.L.length [] [] from ⟨Fv w ζ b.L.length 10 48 (by have:=lV.out;simp only[maxLen];omega),fun a ha=>by simp at ha,fun r hr=>by simp at hr,(Below.refl _ w).alloc (Nat.le_refl _) _⟩)
 clear hkl
 have p0:=FW.out.P.facts
 have hbc:=FW.out.bc
 have hbi:=FW.out.bi
 have hmc:=hbc.lt
 have Pm:=hbi.lt
 go_enter Tryz.func31,Tryz.ntmps31
 go_upto_region 2 with fail
 clear p0 hbc hbi hmc Pm hln hmk
 generalize w.alloc _=W1 at *
 have gP:=ħ (FW.out.below HX0.out.be)
 have Sj:=ħ (WW.out W1 gP.out.bi)
 have hbm:=gP.out.bi
 have p0:=gP.out.P.facts
 have hbc:=gP.out.bc
 have hbi:=gP.out.bi
 have hmc:=hbc.lt
 have Pm:=hbi.lt
 go_wp2_with (first | (go_at_call 67;((with_reducible refine (tu.out _).mono ?_);rintro e w2 ⟨rfl,hw2⟩;rw[hw2];clear hw2)) | (go_at_call 64;((with_reducible refine Sj.out.mono ?_);rintro e w3 ⟨Ai,ci,rfl,ho,hb⟩;have HB3:=ħ (show Below W1.heap.size W1 w3 from ((Below.refl _ W1).alloc (Nat.le_refl _) _).trans (hb.mono (by simp)));have qx:=ħ (((HX0.out.below HB3.out)).more (r:=(Ai,b.L.map Ic.id)) (by have h1:=World.ownsRow.mono ho (show W1.heap.size≤W1.heap.size+1 by omega);exact HX0.out.own HB3.out.size (by rw[List.length_map];exact h1)));clear ho hb)))
 clear p0 hbc hbi hmc Pm hbm HX0 Sj HB3
 go_loopw [3,19] (fun vo vi wr=>∃ (k m:Nat) (A:Option Addr) (c:Nat) (xs:List Xa),k≤b.L.length∧vi=ι (k:Int)∧vo=.slice A m c∧m=xs.length∧xs.map (fun a=>a.x)=b.L.take k∧XL Yz PR 48 10 w wr A c xs [(Ai,b.L.map Ic.id)]) (fun _ vi _=>b.L.length - (intOf vi).toNat)
 case atStart=>exact ⟨0,0,_,_,[],Nat.zero_le _,rfl,rfl,rfl,rfl,qx.out⟩
 case round=>
  obtain ⟨k,m,A,c,xs,hk,rfl,rfl,hm,has,hx⟩:=hrel
  clear qx
  have hnl:b.L.length≤1000:=lV.out
  have RH:=ħ hm
  have bS:=ħ has
  have Xx:=ħ hx
  have HP:=ħ (FW.out.below hx.be)
  have m_:=ħ (hx.ex (Ai,b.L.map Ic.id) (by simp))
  have uY:m≤1000:=by
   have h1:xs.length=(b.L.take k).length:=by rw[←has,List.length_map]
   have h2:(b.L.take k).length≤b.L.length:=by rw[List.length_take];omega
   have:=lV.out
   omega
  have hpi:Plain Ai b.L.length:=by have:=m_.out.plain (by omega);rwa [List.length_map] at this
  clear hm has hx
  by_cases hlt:k<b.L.length
  ·have hlt':(k:Int)<b.L.length:=by omega
   have hix:=fun W=>Ki hpi ci k hlt W
   have hcl:=qJ m_.out (k:=k) (by rw[List.length_map];exact hlt)
   obtain ⟨x,hx⟩:∃ x,x=b.L[k]:=⟨_,rfl⟩
   have hxm:x∈b.L:=by rw[hx];exact List.getElem_mem hlt
   have hgd:gd (b.L.map Ic.id) k=x.id:=by rw[qd (by rw[List.length_map];exact hlt),List.getElem_map,hx]
   rw[hgd] at hcl
   obtain ⟨a,hax,hkg,mI⟩:=QS.out.at_ x hxm
   have Xj:=ħ (show b.L.take (k+1)=b.L.take k ++ [a.x] by rw[List.take_succ_eq_append_getElem hlt,hax,hx])
   have TY:=HV.out x hxm
   rw[←hax] at hkg hcl TY
   have sQ:=ħ (yO TY.1)
   have HXn:=ħ TY.2
   have iD:=ħ mI
   have hl0:=EY (w:=w) (mi:=mi) a.x.id (show (zn ki a.x.id).getD (.agg ζ)=.agg (ξ a.x a.An a.cn a.Ac a.cc a.Au a.cu) by rw[hkg];rfl)
   clear hx hxm hgd hkg mI TY hax x
   have sU:=ħ fun (W:World) (hb:Below wr.heap.size wr W)=>(show Calls Tryz.prog 62 #[.agg (ξ a.x a.An a.cn a.Ac a.cc a.Au a.cu)] W (Vu a.x W) from gQ (Bq p mc mi mh) a.x.id a.x.urg a.x.dist a.x.since a.x.merged a.x.code a.x.nodes a.x.calls a.x.units a.An a.Ac a.Au a.cn a.cc a.cu a.x.closed W (zl (zl (w:=w) iD.out.n (Xx.out.be)) hb) (zl (zl (w:=w) iD.out.c (Xx.out.be)) hb) (zl (zl (w:=w) iD.out.u (Xx.out.be)) hb) (by have:=HXn.out;omega) sQ.out.2.1 (by have:=sQ.out.2.2;omega))
   have p0:=HP.out.P.facts
   have hbc:=HP.out.bc
   have hbi:=HP.out.bi
   have hmc:=hbc.lt
   have Pm:=hbi.lt
   go_wp2_with (first
    | (go_at_call 62;((with_reducible refine (sU.out _ (Below.refl _ _)).mono ?_);rintro e w5 ⟨A2,A3,A4,c2,c3,c4,rfl,h1,h2,h3,hb⟩;have jq:=ħ ((Xx.out.below hb).below ((Below.refl _ w5).alloc (Nat.le_refl _) (.cells (ξ a.x A2 c2 A3 c3 A4 c4) 48)));have y9:=ħ (show ∀ r∈PR ⟨a.x,A2,A3,A4,c2,c3,c4⟩,RI (w5.alloc (.cells (ξ a.x A2 c2 A3 c3 A4 c4) 48)) (OB w (w5.alloc (.cells (ξ a.x A2 c2 A3 c3 A4 c4) 48)) A) r.1 r.2 from Wm (PN (Xx.out.own hb.size h1) ((Below.refl _ w5).alloc (Nat.le_refl _) _)) (PN (Xx.out.own hb.size h2) ((Below.refl _ w5).alloc (Nat.le_refl _) _)) (PN (Xx.out.own hb.size h3) ((Below.refl _ w5).alloc (Nat.le_refl _) _)));have H1:=ħ (show ∀ u∈([ι a.x.id,ι a.x.urg,.string a.x.code,.slice A2 a.x.nodes.length c2,ι a.x.dist,ι a.x.since,.slice A3 a.x.calls.length c3,.slice A4 a.x.units.length c4,ι a.x.merged,.bool a.x.closed]:List Value),u.oneCell'=true from uz ⟨a.x,A2,A3,A4,c2,c3,c4⟩);clear h1 h2 h3 hb))
    | (at_builtin;refine ze _ rfl _ _ _ rfl w.heap.size 48 _ 10 136 Tryz.underlying26 zJ rfl (by omega) (.slice A m c) m (xs.flatMap Yz) rfl (by have h:=jq.out.ow;rw[←RH.out] at h;exact h) _ (some ⟨w5.heap.size,0,none⟩) 1 1 [ι a.x.id,ι a.x.urg,.string a.x.code,.slice A2 a.x.nodes.length c2,ι a.x.dist,ι a.x.since,.slice A3 a.x.calls.length c3,.slice A4 a.x.units.length c4,ι a.x.merged,.bool a.x.closed] rfl (Reads.newS w5 [ι a.x.id,ι a.x.urg,.string a.x.code,.slice A2 a.x.nodes.length c2,ι a.x.dist,ι a.x.since,.slice A3 a.x.calls.length c3,.slice A4 a.x.units.length c4,ι a.x.merged,.bool a.x.closed] 48 (0,0) 1 10 rfl _ rfl) H1.out (by simp only[maxLen];omega) (by omega) jq.out.be.size ?_;intro A6 c6 w6 hown hgr hat;have ZI:=ħ (jq.out.app ⟨a.x,A2,A3,A4,c2,c3,c4⟩ y9.out (by rw[←RH.out];exact hown) (by rw[←RH.out];exact hgr) (by rw[←RH.out];exact hat));clear hown hgr hat))
   exact ⟨⟨k+1,m+1,A6,c6,xs ++ [⟨a.x,A2,A3,A4,c2,c3,c4⟩],by omega,by go_num,rfl,by rw[List.length_append,RH.out];rfl,by rw[List.map_append,bS.out,Xj.out];rfl,ZI.out⟩,by simp[intOf];omega⟩
  ·have hlt':¬ (k:Int)<b.L.length:=by omega
   have hk3:k=b.L.length:=by omega
   subst hk3
   rw[List.take_length] at bS
   go_wp2_with fail
   go_ret
   have hm:=RH.out
   subst hm
   exact ⟨A,c,xs,rfl,bS.out,Xx.out.noex⟩
theorem Tu (p mc mi mh:Nat)(b:Bk)(w:World)(h:PI w p mc mi mh b)(hs:Asc Ic.id b.L)(hl:b.L.length≤1000)(hv:∀ x∈b.L,jC x=true∧x.nodes.length≤60) :
 Calls Tryz.prog 28 #[.pointer (some ⟨p,0,none⟩)] w (SL (R9 b) w):=by
 obtain ⟨kc,ki,kh,hw,hc,hi,hh⟩:=h
 have FW:=ħ hw
 have QS:=ħ hi
 have lV:=ħ hl
 have HV:=ħ hv
 have HS:=ħ hs
 have hkl:ki.length=b.L.length:=by have:=(Sb hi hs).length_eq;simpa using this
 have hln:=fun (W:World) (ty:TypeId) (h:zF W mi .i64 ki)=>zF.length (P:=Tryz.prog) h Tryz.underlying86 ty
 have tu:=ħ fun (W:World)=>RL (some mi) W
 have WW:=ħ fun (W:World) (h:zF W mi .i64 ki)=>SN h hi hs hl (fun x hx=>(hv x hx).1)
 clear hc hi hh hl hv hs
 have HX0:=ħ (show XL Yz PR 48 10 w w none 0 [] [] from ⟨World.ownsRow_nil _ _ _ _,fun a ha=>by simp at ha,fun r hr=>by simp at hr,Below.refl _ w⟩)
 clear hkl hln
 go_enter Tryz.func28,Tryz.ntmps28
 go_upto_region 2 with fail
 have gP:=FW
 have Sj:=ħ (WW.out w gP.out.bi)
 have hbm:=gP.out.bi
 have p0:=gP.out.P.facts
 have hbc:=gP.out.bc
 have hbi:=gP.out.bi
 have hmc:=hbc.lt
 have Pm:=hbi.lt
 go_wp2_with (first | (go_at_call 67;((with_reducible refine (tu.out _).mono ?_);rintro e w2 ⟨rfl,hw2⟩;rw[hw2];clear hw2)) | (go_at_call 64;((with_reducible refine Sj.out.mono ?_);rintro e w3 ⟨Ai,ci,rfl,ho,hb⟩;have HB3:=ħ (show Below w.heap.size w w3 from ((Below.refl _ w).alloc (Nat.le_refl _) _).trans (hb.mono (by simp)));have qx:=ħ (((HX0.out.below HB3.out)).more (r:=(Ai,b.L.map Ic.id)) (by have h1:=World.ownsRow.mono ho (show w.heap.size≤w.heap.size+1 by omega);exact HX0.out.own HB3.out.size (by rw[List.length_map];exact h1)));clear ho hb)))
 clear p0 hbc hbi hmc Pm hbm HX0 Sj HB3
 go_loopw [3,14] (fun vo vi wr=>∃ (k m:Nat) (A:Option Addr) (c:Nat) (xs:List Xa),k≤b.L.length∧vi=ι (k:Int)∧vo=.slice A m c∧m=xs.length∧xs.map (fun a=>a.x)=(b.L.take k).filter zx∧XL Yz PR 48 10 w wr A c xs [(Ai,b.L.map Ic.id)]) (fun _ vi _=>b.L.length - (intOf vi).toNat)
 case atStart=>exact ⟨0,0,_,_,[],Nat.zero_le _,rfl,rfl,rfl,rfl,qx.out⟩
 case round=>
  obtain ⟨k,m,A,c,xs,hk,rfl,rfl,hm,has,hx⟩:=hrel
  clear qx
  have hnl:b.L.length≤1000:=lV.out
  have RH:=ħ hm
  have bS:=ħ has
  have Xx:=ħ hx
  have HP:=ħ (FW.out.below hx.be)
  have m_:=ħ (hx.ex (Ai,b.L.map Ic.id) (by simp))
  have uY:m≤1000:=by
   have h1:xs.length=((b.L.take k).filter zx).length:=by rw[←has,List.length_map]
   have h2:((b.L.take k).filter zx).length≤b.L.length:=Nat.le_trans (List.length_filter_le _ _) (by rw[List.length_take];omega)
   have:=lV.out
   omega
  have hpi:Plain Ai b.L.length:=by have:=m_.out.plain (by omega);rwa [List.length_map] at this
  clear hm has hx
  by_cases hlt:k<b.L.length
  ·have hlt':(k:Int)<b.L.length:=by omega
   have hix:=fun W=>Ki hpi ci k hlt W
   have hcl:=qJ m_.out (k:=k) (by rw[List.length_map];exact hlt)
   obtain ⟨x,hx⟩:∃ x,x=b.L[k]:=⟨_,rfl⟩
   have hxm:x∈b.L:=by rw[hx];exact List.getElem_mem hlt
   have hgd:gd (b.L.map Ic.id) k=x.id:=by rw[qd (by rw[List.length_map];exact hlt),List.getElem_map,hx]
   rw[hgd] at hcl
   obtain ⟨a,hax,hkg,mI⟩:=QS.out.at_ x hxm
   have Xj:=ħ (show b.L.take (k+1)=b.L.take k ++ [a.x] by rw[List.take_succ_eq_append_getElem hlt,hax,hx])
   have TY:=HV.out x hxm
   rw[←hax] at hkg hcl TY
   have sQ:=ħ (yO TY.1)
   have HXn:=ħ TY.2
   have iD:=ħ mI
   have hl0:=EY (w:=w) (mi:=mi) a.x.id (show (zn ki a.x.id).getD (.agg ζ)=.agg (ξ a.x a.An a.cn a.Ac a.cc a.Au a.cu) by rw[hkg];rfl)
   clear hx hxm hgd hkg mI TY hax x
   have sU:=ħ fun (W:World) (hb:Below wr.heap.size wr W)=>(show Calls Tryz.prog 62 #[.agg (ξ a.x a.An a.cn a.Ac a.cc a.Au a.cu)] W (Vu a.x W) from gQ (Bq p mc mi mh) a.x.id a.x.urg a.x.dist a.x.since a.x.merged a.x.code a.x.nodes a.x.calls a.x.units a.An a.Ac a.Au a.cn a.cc a.cu a.x.closed W (zl (zl (w:=w) iD.out.n (Xx.out.be)) hb) (zl (zl (w:=w) iD.out.c (Xx.out.be)) hb) (zl (zl (w:=w) iD.out.u (Xx.out.be)) hb) (by have:=HXn.out;omega) sQ.out.2.1 (by have:=sQ.out.2.2;omega))
   have p0:=HP.out.P.facts
   have hbc:=HP.out.bc
   have hbi:=HP.out.bi
   have hmc:=hbc.lt
   have Pm:=hbi.lt
   go_upto_region 6 with fail
   have jv:=ħ (Xx.out.below ((Below.refl _ wr).alloc (Nat.le_refl _) (.cells (ξ a.x a.An a.cn a.Ac a.cc a.Au a.cu) 48)))
   have HQ4:=ħ (zb.new wr 48 (ξ a.x a.An a.cn a.Ac a.cc a.Au a.cu))
   have Zp:=ħ ((Below.refl _ wr).alloc (Nat.le_refl _) (.cells (ξ a.x a.An a.cn a.Ac a.cc a.Au a.cu) 48))
   obtain ⟨q6,dY⟩:∃ q,q=wr.heap.size:=⟨_,rfl⟩
   rw[←dY] at HQ4⊢
   clear p0 hbc hbi hmc Pm dY
   generalize wr.alloc _=W4 at *
   have x0:=HQ4.out.facts
   cases ho:zx a.x with
   | false=>
    have YC:=ħ (yB a false ho)
    have HT2:=ħ (show (b.L.take (k+1)).filter zx=(b.L.take k).filter zx by rw[Xj.out,List.filter_append];simp[ho])
    clear ho
    go_wp2_with (go_at_call 56;((with_reducible refine (YC.out _).mono ?_);rintro e w5 ⟨rfl,hb⟩;have jq:=ħ (jv.out.below hb);clear hb))
    exact ⟨⟨k+1,m,A,c,xs,by omega,by go_num,rfl,RH.out,by rw[bS.out,HT2.out],jq.out⟩,by simp[intOf];omega⟩
   | true=>
    have YC:=ħ (yB a true ho)
    have HT2:=ħ (show (b.L.take (k+1)).filter zx=(b.L.take k).filter zx ++ [a.x] by rw[Xj.out,List.filter_append];simp[ho])
    clear ho
    go_upto_region 7 with (go_at_call 56;((with_reducible refine (YC.out _).mono ?_);rintro e w5 ⟨rfl,hb⟩;have jq:=ħ (jv.out.below hb);have Az:=ħ (HQ4.out.below hb HQ4.out.lt);have ZN:=ħ (Zp.out.trans (hb.mono Zp.out.size));clear hb x0;have x0:=Az.out.facts))
    have z0F:=ħ (sU.out w5 ZN.out)
    go_wp2_with (first
     | (go_at_call 62;((with_reducible refine z0F.out.mono ?_);rintro e w7 ⟨A2,A3,A4,c2,c3,c4,rfl,h1,h2,h3,hb⟩;have Kn:=ħ ((jq.out.below hb).below ((Below.refl _ w7).alloc (Nat.le_refl _) (.cells (ξ a.x A2 c2 A3 c3 A4 c4) 48)));have ZM:=ħ (show ∀ r∈PR ⟨a.x,A2,A3,A4,c2,c3,c4⟩,RI (w7.alloc (.cells (ξ a.x A2 c2 A3 c3 A4 c4) 48)) (OB w (w7.alloc (.cells (ξ a.x A2 c2 A3 c3 A4 c4) 48)) A) r.1 r.2 from Wm (PN (jq.out.own hb.size h1) ((Below.refl _ w7).alloc (Nat.le_refl _) _)) (PN (jq.out.own hb.size h2) ((Below.refl _ w7).alloc (Nat.le_refl _) _)) (PN (jq.out.own hb.size h3) ((Below.refl _ w7).alloc (Nat.le_refl _) _)));have H1:=ħ (show ∀ u∈([ι a.x.id,ι a.x.urg,.string a.x.code,.slice A2 a.x.nodes.length c2,ι a.x.dist,ι a.x.since,.slice A3 a.x.calls.length c3,.slice A4 a.x.units.length c4,ι a.x.merged,.bool a.x.closed]:List Value),u.oneCell'=true from uz ⟨a.x,A2,A3,A4,c2,c3,c4⟩);clear h1 h2 h3 hb x0))
     | (at_builtin;refine ze _ rfl _ _ _ rfl w.heap.size 48 _ 10 136 Tryz.underlying26 zJ rfl (by omega) (.slice A m c) m (xs.flatMap Yz) rfl (by have h:=Kn.out.ow;rw[←RH.out] at h;exact h) _ (some ⟨w7.heap.size,0,none⟩) 1 1 [ι a.x.id,ι a.x.urg,.string a.x.code,.slice A2 a.x.nodes.length c2,ι a.x.dist,ι a.x.since,.slice A3 a.x.calls.length c3,.slice A4 a.x.units.length c4,ι a.x.merged,.bool a.x.closed] rfl (Reads.newS w7 [ι a.x.id,ι a.x.urg,.string a.x.code,.slice A2 a.x.nodes.length c2,ι a.x.dist,ι a.x.since,.slice A3 a.x.calls.length c3,.slice A4 a.x.units.length c4,ι a.x.merged,.bool a.x.closed] 48 (0,0) 1 10 rfl _ rfl) H1.out (by simp only[maxLen];omega) (by omega) Kn.out.be.size ?_;intro A6 c6 w6 hown hgr hat;have ZI:=ħ (Kn.out.app ⟨a.x,A2,A3,A4,c2,c3,c4⟩ ZM.out (by rw[←RH.out];exact hown) (by rw[←RH.out];exact hgr) (by rw[←RH.out];exact hat));clear hown hgr hat))
    exact ⟨⟨k+1,m+1,A6,c6,xs ++ [⟨a.x,A2,A3,A4,c2,c3,c4⟩],by omega,by go_num,rfl,by rw[List.length_append,RH.out];rfl,by rw[List.map_append,bS.out,HT2.out];rfl,ZI.out⟩,by simp[intOf];omega⟩
  ·have hlt':¬ (k:Int)<b.L.length:=by omega
   have hk3:k=b.L.length:=by omega
   subst hk3
   rw[List.take_length] at bS
   go_wp2_with fail
   go_ret
   have hm:=RH.out
   subst hm
   exact ⟨A,c,xs,rfl,bS.out,Xx.out.noex⟩
theorem Tn (p mc mi mh:Nat)(b:Bk)(w:World)(h:PI w p mc mi mh b)(hs:Asc Cr.call b.C)(hl:b.C.length≤1000)(hv:∀ x∈b.C,yz x=true∧x.nodes.length≤60) :
 Calls Tryz.prog 23 #[.pointer (some ⟨p,0,none⟩)] w (Ty b.C w):=by
 obtain ⟨kc,ki,kh,hw,hc,hi,hh⟩:=h
 have FW:=ħ hw
 have Pt:=ħ (show PI w p mc mi mh b from ⟨kc,ki,kh,hw,hc,hi,hh⟩)
 have lV:=ħ hl
 have HV:=ħ hv
 have HS:=ħ hs
 have hkl:kc.length=b.C.length:=by have:=(SQ hc hs).length_eq;simpa using this
 have hln:=fun (W:World) (ty:TypeId) (h:zF W mc .i64 kc)=>zF.length (P:=Tryz.prog) h Tryz.underlying85 ty
 have OM:=ħ fun (W:World)=>Sy (some mc) W
 have WW:=ħ fun (W:World) (h:zF W mc .i64 kc)=>TW h hc hs hl (fun x hx=>(hv x hx).1)
 clear hc hi hh hl hv hs
 rw[hkl] at hln
 have hmk:=gX b.C.length (by have:=lV.out;omega)
 have HX0:=ħ (show XL qC Rb 34 8 w (w.alloc (.cells (madeCells κ (b.C.length * 8)) 34)) (some ⟨w.heap.size,0,none⟩) b.C.length [] [] from ⟨Fv w κ b.C.length 8 34 (by have:=lV.out;simp only[maxLen];omega),fun a ha=>by simp at ha,fun r hr=>by simp at hr,(Below.refl _ w).alloc (Nat.le_refl _) _⟩)
 clear hkl
 have p0:=FW.out.P.facts
 have hbc:=FW.out.bc
 have hbi:=FW.out.bi
 have hmc:=hbc.lt
 have Pm:=hbi.lt
 go_enter Tryz.func23,Tryz.ntmps23
 go_upto_region 2 with fail
 clear p0 hbc hbi hmc Pm hln hmk
 generalize w.alloc _=W1 at *
 have gP:=ħ (FW.out.below HX0.out.be)
 have Sj:=ħ (WW.out W1 gP.out.bc)
 have hbm:=gP.out.bc
 have p0:=gP.out.P.facts
 have hbc:=gP.out.bc
 have hbi:=gP.out.bi
 have hmc:=hbc.lt
 have Pm:=hbi.lt
 go_wp2_with (first | (go_at_call 65;((with_reducible refine (OM.out _).mono ?_);rintro e w2 ⟨rfl,hw2⟩;rw[hw2];clear hw2)) | (go_at_call 64;((with_reducible refine Sj.out.mono ?_);rintro e w3 ⟨Ai,ci,rfl,ho,hb⟩;have HB3:=ħ (show Below W1.heap.size W1 w3 from ((Below.refl _ W1).alloc (Nat.le_refl _) _).trans (hb.mono (by simp)));have qx:=ħ (((HX0.out.below HB3.out)).more (r:=(Ai,b.C.map Cr.call)) (by have h1:=World.ownsRow.mono ho (show W1.heap.size≤W1.heap.size+1 by omega);exact HX0.out.own HB3.out.size (by rw[List.length_map];exact h1)));clear ho hb)))
 clear p0 hbc hbi hmc Pm hbm HX0 Sj HB3
 go_loopw [3,21] (fun vo vi wr=>∃ (k m:Nat) (A:Option Addr) (c:Nat) (xs:List Ca),k≤b.C.length∧vi=ι (k:Int)∧vo=.slice A m c∧m=xs.length∧xs.map (fun a=>a.c)=b.C.take k∧XL qC Rb 34 8 w wr A c xs [(Ai,b.C.map Cr.call)]) (fun _ vi _=>b.C.length - (intOf vi).toNat)
 case atStart=>exact ⟨0,0,_,_,[],Nat.zero_le _,rfl,rfl,rfl,rfl,qx.out⟩
 case round=>
  obtain ⟨k,m,A,c,xs,hk,rfl,rfl,hm,has,hx⟩:=hrel
  clear qx
  have hnl:b.C.length≤1000:=lV.out
  have RH:=ħ hm
  have bS:=ħ has
  have Xx:=ħ hx
  have HP:=ħ (FW.out.below hx.be)
  have m_:=ħ (hx.ex (Ai,b.C.map Cr.call) (by simp))
  have uY:m≤1000:=by
   have h1:xs.length=(b.C.take k).length:=by rw[←has,List.length_map]
   have h2:(b.C.take k).length≤b.C.length:=by rw[List.length_take];omega
   omega
  have hpi:Plain Ai b.C.length:=by have:=m_.out.plain (by omega);rwa [List.length_map] at this
  clear hm has hx
  by_cases hlt:k<b.C.length
  ·have hlt':(k:Int)<b.C.length:=by omega
   have hix:=fun W=>Ki hpi ci k hlt W
   have hcl:=qJ m_.out (k:=k) (by rw[List.length_map];exact hlt)
   obtain ⟨t,ht⟩:∃ t,t=b.C[k]:=⟨_,rfl⟩
   have Ko:t∈b.C:=by rw[ht];exact List.getElem_mem hlt
   have hgd:gd (b.C.map Cr.call) k=t.call:=by rw[qd (by rw[List.length_map];exact hlt),List.getElem_map,ht]
   rw[hgd] at hcl
   have Xj:=ħ (show b.C.take (k+1)=b.C.take k ++ [t] by rw[List.take_succ_eq_append_getElem hlt,ht])
   have hcp:Jz b t.call=(t,true):=by unfold Jz;rw[show yP b.C t.call=some t from yR Cr.call HS.out Ko]
   have BU:=ħ (show Calls Tryz.prog 15 #[.pointer (some ⟨p,0,none⟩),ι t.call] wr (dV t true wr) from by
    have h1:=iT p mc mi mh b t.call wr (Pt.out.below Xx.out.be) (fun x hx=>(HV.out x hx).2)
    rw[hcp] at h1
    exact h1)
   clear ht Ko hgd hcp
   have p0:=HP.out.P.facts
   have hbc:=HP.out.bc
   have hbi:=HP.out.bi
   have hmc:=hbc.lt
   have Pm:=hbi.lt
   go_upto_region 6 with (go_at_call 15;((with_reducible refine BU.out.mono ?_);rintro e w5 ⟨A2,k2,rfl,ho,hb⟩;have y9:=ħ (Xx.out.own hb.size ho);have jq:=ħ (Xx.out.below hb);clear ho hb p0 hbc hbi hmc Pm))
   have ZI:=ħ (jq.out.below ((Below.refl _ w5).alloc (Nat.le_refl _) (.cells (χ t A2 k2) 34)))
   have yx:=ħ (PN y9.out ((Below.refl _ w5).alloc (Nat.le_refl _) (.cells (χ t A2 k2) 34)))
   have Gy:=ħ (zb.new w5 34 (χ t A2 k2))
   obtain ⟨q6,dY⟩:∃ q,q=w5.heap.size:=⟨_,rfl⟩
   rw[←dY] at Gy⊢
   clear dY jq y9
   generalize w5.alloc _=W6 at *
   have x0:=Gy.out.facts
   have H1:=ħ (show ∀ u∈([ι t.call,ι t.inc,ι t.urg,.string t.code,.slice A2 t.nodes.length k2,ι t.dist,ι t.since,.bool t.closed]:List Value),u.oneCell'=true from Vz ⟨t,A2,k2⟩)
   have Kn:=ħ (ZI.out.below ((Below.refl _ W6).alloc (Nat.le_refl _) (.cells (χ t A2 k2) 34)))
   have ZM:=ħ (show ∀ r∈Rb ⟨t,A2,k2⟩,RI (W6.alloc (.cells (χ t A2 k2) 34)) (OB w (W6.alloc (.cells (χ t A2 k2) 34)) A) r.1 r.2 from by
    intro r hr
    have e:r=(A2,t.nodes):=by unfold Rb at hr;simpa using hr
    rw[e]
    exact PN yx.out ((Below.refl _ W6).alloc (Nat.le_refl _) _))
   go_wp2_with (at_builtin;refine ze _ rfl _ _ _ rfl w.heap.size 34 _ 8 88 Tryz.underlying27 jM rfl (by omega) (.slice A m c) m (xs.flatMap qC) rfl (by have h:=Kn.out.ow;rw[←RH.out] at h;exact h) _ (some ⟨W6.heap.size,0,none⟩) 1 1 [ι t.call,ι t.inc,ι t.urg,.string t.code,.slice A2 t.nodes.length k2,ι t.dist,ι t.since,.bool t.closed] rfl (Reads.newS W6 [ι t.call,ι t.inc,ι t.urg,.string t.code,.slice A2 t.nodes.length k2,ι t.dist,ι t.since,.bool t.closed] 34 (0,0) 1 8 rfl _ rfl) H1.out (by simp only[maxLen];omega) (by omega) Kn.out.be.size ?_;intro A6 c6 w6 hown hgr hat;have BG:=ħ (Kn.out.app ⟨t,A2,k2⟩ ZM.out (by rw[←RH.out];exact hown) (by rw[←RH.out];exact hgr) (by rw[←RH.out];exact hat));clear hown hgr hat)
   exact ⟨⟨k+1,m+1,A6,c6,xs ++ [⟨t,A2,k2⟩],by omega,by go_num,rfl,by rw[List.length_append,RH.out];rfl,by rw[List.map_append,bS.out,Xj.out];rfl,BG.out⟩,by simp[intOf];omega⟩
  ·have hlt':¬ (k:Int)<b.C.length:=by omega
   have hk3:k=b.C.length:=by omega
   subst hk3
   rw[List.take_length] at bS
   go_wp2_with fail
   go_ret
   have hm:=RH.out
   subst hm
   exact ⟨A,c,xs,rfl,bS.out,Xx.out.noex⟩
end Go.Proofs.YtdhcjhfgibmhfaaGreatDoor
