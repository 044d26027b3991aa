import Derived.Test.YtdhcjhfgibmhfaaGreatDoorJG2
import Derived.Test.YtdhcjhfgibmhfaaGreatDoorJPr17
import Derived.Test.YtdhcjhfgibmhfaaGreatDoorJG21
import Derived.Laws.MakeOwn
set_option linter.unusedVariables false
set_option linter.unusedSimpArgs false
namespace Go.Proofs.YtdhcjhfgibmhfaaGreatDoor
open Go.RowKit Go.Own Go.Quo Go.Inc Go.Maps Go.Sort Go.Shelf
open Go.WideElems (Fit rd rg)
theorem Tw (m:Nat):AnyZI.SortsIn Tryz.prog Tryz.sortedA_ren Fence.wide m:=
 ⟨fun blk off cap ss W hH hblk hsz=>callsIn_wide.2 (AnyM.slices_Sort_int Tryz.sortA blk off cap ss W hH hblk hsz),
  fun p cap W=>callsIn_wide.2 (AnyM.slices_Sort_int_none Tryz.sortA p cap W)⟩
def RU:Value→Option (DataW Unit × List MemPlace):=fun _=>some (.nil,[])
theorem insert_perm (x:Lit × DataW Unit):∀ l,(DataW.insert x l).Perm (x :: l)
 | []=>List.Perm.refl _
 | y :: r=>by
  unfold DataW.insert
  split
  ·exact List.Perm.refl _
  ·exact ((insert_perm x r).cons y).trans (List.Perm.swap x y r)
theorem Rm:∀ l:List (Lit × DataW Unit),(l.foldr DataW.insert []).Perm l
 | []=>List.Perm.refl _
 | x :: r=>(insert_perm x _).trans ((Rm r).cons x)
theorem Rq {P:Program}{kt:TypeId}(hP:P.underlying kt=some (.int .i64)){w:World}{m:Nat}{qg:List (Int × Value)}(h:zF w m .i64 qg)(hnd:(qg.map (·.1)).Nodup)(hwf:∀ p∈qg,(Lit.int .i64 p.1).wf=true)(hl:qg.length≤maxLen) :
 ∃ D0:DataW Unit,w.ownsMap P kt RU m qg.length D0∧(intKeys D0).Perm (qg.map (·.1))∧Maps.size D0=qg.length:=by
 obtain ⟨es,clock,hm,he,hb,hlt⟩:=h
 have hkey:∀ p∈qg,keyOf P kt (.int .i64 p.1)=some (.int .i64 p.1):=fun p hp=>keyOf_int_mk hP (hwf p hp)
 have hks:es.toList.map (·.key)=qg.map (fun p=>Value.int .i64 p.1):=by
  have:=congrArg (List.map Prod.fst) he
  simpa [List.map_map,Function.comp_def] using this
 have hrg:es.toList.map (rg P kt RU)=qg.map (fun p=>(Lit.int .i64 p.1,(DataW.nil:DataW Unit))):=by
  have e1:es.toList.map (rg P kt RU)=(es.toList.map (·.key)).map (fun k=>((keyOf P kt k).bind fun key=>some (key,(DataW.nil:DataW Unit))).getD (.bool false,.nil)):=by
   rw[List.map_map]
   rfl
  rw[e1,hks,List.map_map]
  refine List.map_congr_left (fun p hp=>?_)
  show ((keyOf P kt (.int .i64 p.1)).bind fun key=>some (key,(DataW.nil:DataW Unit))).getD (.bool false,.nil)=_
  rw[hkey p hp];rfl
 have hsz:es.size=qg.length:=by
  have:=congrArg List.length hks
  simpa using this
 have hF:Fit P kt RU es clock:=by
  refine ⟨by omega,⟨hlt,hb,?_⟩,fun x hx=>?_⟩
  ·rw[hks]
   rw[List.Nodup,List.pairwise_map] at hnd⊢
   exact hnd.imp (fun hne e=>hne (by simpa using e))
  ·have hk:x.key∈es.toList.map (·.key):=List.mem_map_of_mem hx
   rw[hks] at hk
   obtain ⟨p,hp,e⟩:=List.mem_map.1 hk
   refine ⟨(.int .i64 p.1,.nil),?_⟩
   unfold WideElems.rd
   rw[←e,hkey p hp];rfl
 refine ⟨.map ((es.toList.map (rg P kt RU)).foldr DataW.insert []),⟨es,clock,hm,hF,by omega,rfl⟩,?_,?_⟩
 ·rw[hrg]
  unfold intKeys
  refine ((Rm _).map _).trans ?_
  rw[List.map_map]
  exact List.Perm.refl _
 ·rw[hrg]
  have:=(Rm (qg.map (fun p=>(Lit.int .i64 p.1,(DataW.nil:DataW Unit))))).length_eq
  show List.length _=_
  rw[this];simp
theorem Sy (mb:Option Nat)(W:World):Calls Tryz.prog 65 #[.map mb] W fun e w'=>e=.returned (.func (.func 112) #[] #[.pointer (some ⟨W.heap.size,0,none⟩)])∧w'=W.alloc (.cells #[.map mb] 85):=
 callsIn_wide.1 (AnyZI.keys_in Tryz.keysC Fence.wide 5 trivial rfl mb W)
theorem RX {w:World}{m:Nat}{qg:List (Int × Value)}(h:zF w m .i64 qg)(hnd:(qg.map (·.1)).Nodup)(hwf:∀ p∈qg,(Lit.int .i64 p.1).wf=true)(hl:qg.length≤1000) :
 Calls Tryz.prog 64 #[.func (.func 112) #[] #[.pointer (some ⟨w.heap.size,0,none⟩)]] (w.alloc (.cells #[.map (some m)] 85)) fun e w'=>∃ (v:Value) (ss:List Int),e=.returned v∧ss.Perm (qg.map (·.1)) ∧
  w'.ownsRow (w.heap.size+1) 2 1 v ss.length ((ss.mergeSort (fun x y=>decide (x≤y))).map (Value.int .i64))∧Below (w.heap.size+1) (w.alloc (.cells #[.map (some m)] 85)) w':=by
 obtain ⟨D0,hown,hp,hs⟩:=Rq (P:=Tryz.prog) Tryz.underlying2 h hnd hwf (by simp only[maxLen];omega)
 have hbl:=hown.lt
 have hseq:SeqGives Fence.wide 2 Tryz.prog 112 #[.pointer (some ⟨w.heap.size,0,none⟩)] encZ (fun ss=>ss.Perm (intKeys D0)) (Maps.size D0) (w.alloc (.cells #[.map (some m)] 85)):=
  AnyZI.keys_gives (ρ:=Tryz.keysC_ren) { Tryz.keysC with } Fence.wide _ trivial rfl (by omega) w.heap.size m qg.length D0 _ (by simp) (by simp) (by
   obtain ⟨es,clock,hb,Ft,hs,hD⟩:=hown
   exact ⟨es,clock,(Below.heap_alloc _ _ m hbl).trans hb,Ft,hs,hD⟩)
 have cS:=AnyZI.sorted_in Tryz.sortedA Fence.wide 5 trivial trivial trivial trivial rfl (by omega) (Tw _) (enters_of Tryz.func111 (by kernel_rfl) rfl) 112 #[.pointer (some ⟨w.heap.size,0,none⟩)] trivial (enters_of Tryz.func112 (by kernel_rfl) rfl) _ _ (by rw[hs];simp only[maxLen];omega) (by rw[hs];omega) _ hseq
 change CallsIn _ _ Tryz.prog 64 _ _ _ at cS
 refine (callsIn_wide.1 cS).mono ?_
 rintro e w' ⟨v,ss,rfl,hS,hrow,hnil,hb⟩
 have hsz:(w.alloc (.cells #[.map (some m)] 85)).heap.size=w.heap.size+1:=by simp
 rw[hsz] at hrow hb
 exact ⟨v,ss,rfl,hS.trans hp,hrow,hb⟩
theorem RL (mb:Option Nat)(W:World):Calls Tryz.prog 67 #[.map mb] W fun e w'=>e=.returned (.func (.func 117) #[] #[.pointer (some ⟨W.heap.size,0,none⟩)])∧w'=W.alloc (.cells #[.map mb] 86):=
 callsIn_wide.1 (AnyZI.keys_in Tryz.keysI Fence.wide 5 trivial rfl mb W)
theorem Sd {w:World}{m:Nat}{qg:List (Int × Value)}(h:zF w m .i64 qg)(hnd:(qg.map (·.1)).Nodup)(hwf:∀ p∈qg,(Lit.int .i64 p.1).wf=true)(hl:qg.length≤1000) :
 Calls Tryz.prog 64 #[.func (.func 117) #[] #[.pointer (some ⟨w.heap.size,0,none⟩)]] (w.alloc (.cells #[.map (some m)] 86)) fun e w'=>∃ (v:Value) (ss:List Int),e=.returned v∧ss.Perm (qg.map (·.1)) ∧
  w'.ownsRow (w.heap.size+1) 2 1 v ss.length ((ss.mergeSort (fun x y=>decide (x≤y))).map (Value.int .i64))∧Below (w.heap.size+1) (w.alloc (.cells #[.map (some m)] 86)) w':=by
 obtain ⟨D0,hown,hp,hs⟩:=Rq (P:=Tryz.prog) Tryz.underlying2 h hnd hwf (by simp only[maxLen];omega)
 have hbl:=hown.lt
 have hseq:SeqGives Fence.wide 2 Tryz.prog 117 #[.pointer (some ⟨w.heap.size,0,none⟩)] encZ (fun ss=>ss.Perm (intKeys D0)) (Maps.size D0) (w.alloc (.cells #[.map (some m)] 86)):=
  AnyZI.keys_gives (ρ:=Tryz.keysI_ren) { Tryz.keysI with } Fence.wide _ trivial rfl (by omega) w.heap.size m qg.length D0 _ (by simp) (by simp) (by
   obtain ⟨es,clock,hb,Ft,hs,hD⟩:=hown
   exact ⟨es,clock,(Below.heap_alloc _ _ m hbl).trans hb,Ft,hs,hD⟩)
 have cS:=AnyZI.sorted_in Tryz.sortedA Fence.wide 5 trivial trivial trivial trivial rfl (by omega) (Tw _) (enters_of Tryz.func111 (by kernel_rfl) rfl) 117 #[.pointer (some ⟨w.heap.size,0,none⟩)] trivial (enters_of Tryz.func117 (by kernel_rfl) rfl) _ _ (by rw[hs];simp only[maxLen];omega) (by rw[hs];omega) _ hseq
 change CallsIn _ _ Tryz.prog 64 _ _ _ at cS
 refine (callsIn_wide.1 cS).mono ?_
 rintro e w' ⟨v,ss,rfl,hS,hrow,hnil,hb⟩
 have hsz:(w.alloc (.cells #[.map (some m)] 86)).heap.size=w.heap.size+1:=by simp
 rw[hsz] at hrow hb
 exact ⟨v,ss,rfl,hS.trans hp,hrow,hb⟩
theorem Tf {n:Int}(h:1≤n∧n≤1099511627776):(Lit.int .i64 n).wf=true:=by
 simp[Lit.wf,IntKind.min,IntKind.max,IntKind.bits,IntKind.signed]
 omega
theorem keys_perm {qg:List (Int × Value)}{l:List Int}(hn:(qg.map (·.1)).Nodup)(hl:l.Nodup)(h:∀ k,k∈l↔(zn qg k).isSome=true):(qg.map (·.1)).Perm l:=by
 rw[List.perm_ext_iff_of_nodup hn hl]
 intro k
 rw[h]
 cases hg:zn qg k with
 | none=>exact ⟨fun hk=>absurd hk (T9 hg),fun hk=>by simp at hk⟩
 | some v=>exact ⟨fun _=>rfl,fun _=>G8 hg⟩
theorem Sb {w:World}{B:Nat→Prop}{qg:List (Int × Value)}{L:List Ic}(h:IM w B qg L)(hs:Asc Ic.id L):(qg.map (·.1)).Perm (L.map Ic.id):=
 keys_perm h.nd (jm Ic.id hs) (fun k=>by
  rw[List.mem_map]
  constructor
  ·rintro ⟨x,hx,rfl⟩
   obtain ⟨a,-,h1,-⟩:=h.at_ x hx
   rw[h1];rfl
  ·intro hk
   by_cases hx:∃ x∈L,x.id=k
   ·exact hx
   ·rw[h.no k (fun x hx2 e=>hx ⟨x,hx2,e⟩)] at hk
    simp at hk)
theorem SQ {w:World}{B:Nat→Prop}{qg:List (Int × Value)}{C:List Cr}(h:CM w B qg C)(hs:Asc Cr.call C):(qg.map (·.1)).Perm (C.map Cr.call):=
 keys_perm h.nd (jm Cr.call hs) (fun k=>by
  rw[List.mem_map]
  constructor
  ·rintro ⟨x,hx,rfl⟩
   obtain ⟨A,n,h1,-⟩:=h.at_ x hx
   rw[h1];rfl
  ·intro hk
   by_cases hx:∃ x∈C,x.call=k
   ·exact hx
   ·rw[h.no k (fun x hx2 e=>hx ⟨x,hx2,e⟩)] at hk
    simp at hk)
theorem Su {l k:List Int}(hp:l.Perm k)(hk:k.Pairwise (fun a b=>a<b)):l.mergeSort (fun x y=>decide (x≤y))=k:=Hz hp (hk.imp (fun h=>by omega))
theorem Sc {L:List Ic}(h:Asc Ic.id L):(L.map Ic.id).Pairwise (fun a b=>a<b):=by
 rw[List.pairwise_map];exact h
theorem SN {w w0:World}{m:Nat}{qg:List (Int × Value)}{B:Nat→Prop}{L:List Ic}(h:zF w m .i64 qg)(hi:IM w0 B qg L)(hs:Asc Ic.id L)(hl:L.length≤1000)(hv:∀ x∈L,jC x=true) :
 Calls Tryz.prog 64 #[.func (.func 117) #[] #[.pointer (some ⟨w.heap.size,0,none⟩)]] (w.alloc (.cells #[.map (some m)] 86)) fun e w'=>∃ (A:Option Addr) (c:Nat),e=.returned (.slice A L.length c) ∧
  w'.ownsRow (w.heap.size+1) 2 1 (.slice A L.length c) L.length ((L.map Ic.id).map (Value.int .i64))∧Below (w.heap.size+1) (w.alloc (.cells #[.map (some m)] 86)) w':=by
 have hp:=Sb hi hs
 have hlen:qg.length=L.length:=by have:=hp.length_eq;simpa using this
 refine (Sd h hi.nd (fun p hpm=>?_) (by omega)).mono ?_
 ·obtain ⟨x,hx,e⟩:=List.mem_map.1 (hp.mem_iff.1 (List.mem_map.2 ⟨p,hpm,rfl⟩))
  rw[←e]
  exact Tf (Va (hv x hx))
 ·rintro e w' ⟨v,ss,rfl,hss,hown,hb⟩
  have hsl:ss.length=L.length:=by have:=(hss.trans hp).length_eq;simpa using this
  rw[Su (hss.trans hp) (Sc hs),hsl] at hown
  have hv:∃ A c,v=.slice A L.length c:=by
   rcases hown.2 with ⟨rfl,h0⟩ | ⟨g,cap,cur,rfl,_⟩
   ·exact ⟨none,0,by rw[h0]⟩
   ·exact ⟨_,_,rfl⟩
  obtain ⟨A,c,rfl⟩:=hv
  exact ⟨A,c,rfl,hown,hb⟩
theorem TW {w w0:World}{m:Nat}{qg:List (Int × Value)}{B:Nat→Prop}{C:List Cr}(h:zF w m .i64 qg)(hi:CM w0 B qg C)(hs:Asc Cr.call C)(hl:C.length≤1000)(hv:∀ x∈C,yz x=true) :
 Calls Tryz.prog 64 #[.func (.func 112) #[] #[.pointer (some ⟨w.heap.size,0,none⟩)]] (w.alloc (.cells #[.map (some m)] 85)) fun e w'=>∃ (A:Option Addr) (c:Nat),e=.returned (.slice A C.length c) ∧
  w'.ownsRow (w.heap.size+1) 2 1 (.slice A C.length c) C.length ((C.map Cr.call).map (Value.int .i64))∧Below (w.heap.size+1) (w.alloc (.cells #[.map (some m)] 85)) w':=by
 have hp:=SQ hi hs
 have hlen:qg.length=C.length:=by have:=hp.length_eq;simpa using this
 refine (RX h hi.nd (fun p hpm=>?_) (by omega)).mono ?_
 ·obtain ⟨x,hx,e⟩:=List.mem_map.1 (hp.mem_iff.1 (List.mem_map.2 ⟨p,hpm,rfl⟩))
  rw[←e]
  exact Tf (UU (hv x hx))
 ·rintro e w' ⟨v,ss,rfl,hss,hown,hb⟩
  have hsl:ss.length=C.length:=by have:=(hss.trans hp).length_eq;simpa using this
  rw[Su (hss.trans hp) (QR hs),hsl] at hown
  have hv:∃ A c,v=.slice A C.length c:=by
   rcases hown.2 with ⟨rfl,h0⟩ | ⟨g,cap,cur,rfl,_⟩
   ·exact ⟨none,0,by rw[h0]⟩
   ·exact ⟨_,_,rfl⟩
  obtain ⟨A,c,rfl⟩:=hv
  exact ⟨A,c,rfl,hown,hb⟩
end Go.Proofs.YtdhcjhfgibmhfaaGreatDoor
namespace Go.Proofs.YtdhcjhfgibmhfaaGreatDoor
open Go.RowKit Go.Own Go.Quo Go.Inc
section
variable {α:Type} {f:α→List Value} {rows:α→List (Option Addr × List Int)} {ty size:Nat} {w wr w2:World} {A:Option Addr} {c:Nat} {xs:List α} {E:List (Option Addr × List Int)}
end
end Go.Proofs.YtdhcjhfgibmhfaaGreatDoor
