import Derived.Test.YtdfobfjpkjddpaaGreatUG1
import Derived.Deep.RegionLaw
set_option linter.unusedVariables false
set_option linter.unusedSimpArgs false
set_option maxRecDepth 10000
set_option maxHeartbeats 2000000
namespace Go.Wire
def addB (s b:Int):Int:=bits .xor .u64 (IntKind.u64.wrap (bits .xor .u64 s b * 1099511628211)) (IntKind.u64.wrap (bits .xor .u64 s b * 1099511628211) / 4294967296)
def byteAt (n:Int)(i:Nat):Int:=n / 2 ^ (8 * i) % 256
def addI (s n:Int)(k:Nat):Int:=(List.range k).foldl (fun s i=>addB s (byteAt n i)) s
theorem addI_succ (s n:Int)(k:Nat):addI s n (k+1)=addB (addI s n k) (byteAt n k):=by
 unfold addI
 rw[List.range_succ,List.foldl_append];rfl
def updF (s:Int)(l:List Int):Int:=l.foldl addB s
def initS:Int:=14695981039346656037
def chF (prev kind:Int)(body:List Int):Int:=updF (addI (addB (addI initS prev 8) kind) (body.length:Int) 8) body
end Go.Wire
namespace Go.Proofs.YtdfobfjpkjddpaaGreat
open Go.RowKit Go.Own Go.Quo Go.Wire
theorem ix31 {A:Option Addr}{n:Nat}(hA:Plain A n)(c k:Nat)(hk:k<n)(w:World):(Instr.indexAt 46 (.slice A n c) (.int .i64 (k:Int))).run Tryz.prog w=.ok (.pointer (some ⟨bk A,ofs A+k,none⟩)) w:=ix45 hA c k hk w
theorem gdb_at {w:World}{B:Nat→Prop}{A:Option Addr}{b:List Int}(h:Reads w B 1 A b.length (bys b)){k:Nat}(hk:k<b.length):w.cell? ⟨bk A,ofs A+k,none⟩=some (.int .u8 (gd b k)):=by
 have:=h.cell2 k (by omega) (by omega)
 rw[this,gd_get hk]
 simp[bys,hk]
theorem addByte_any (s b:Int)(hb0:0≤b)(hb1:b<256)(w:World) :
 Calls Tryz.prog 122 #[.int .u64 s,.int .u8 b] w fun e w'=>e=.returned (.int .u64 (addB s b))∧w=w':=by
 have hw:IntKind.u64.wrap b=b:=by rw[IntKind.wrap_u64];omega
 have HA:=ħ (show addB s b=bits .xor .u64 (IntKind.u64.wrap (bits .xor .u64 s b * 1099511628211)) (IntKind.u64.wrap (bits .xor .u64 s b * 1099511628211) / 4294967296) from rfl)
 generalize addB s b=R at *
 go_enter Tryz.func122,Tryz.ntmps122
 go_wp2
 go_ret
 exact ⟨by rw[HA.out];rfl,rfl⟩
theorem addInt_any (s n:Int)(w:World) :
 Calls Tryz.prog 123 #[.int .u64 s,.int .u64 n] w fun e w'=>e=.returned (.int .u64 (addI s n 8))∧w=w':=by
 have HC:=ħ fun s b h0 h1=>addByte_any s b h0 h1 w
 have HS:=ħ (addI_succ s n)
 have H0:=ħ (show addI s n 0=s from rfl)
 generalize addI s n=F at *
 go_enter Tryz.func123,Tryz.ntmps123
 go_wp2_with fail
 go_loopw [0,6] (fun vs vi wr=>∃ k:Nat,k≤8∧vi=.int .i64 k∧vs=.int .u64 (F k)∧wr=w) (fun _ i _=>8 - (intOf i).toNat)
 case atStart=>exact ⟨0,by omega,rfl,by rw[H0.out],rfl⟩
 case round=>
  obtain ⟨k,hk,rfl,rfl,rfl⟩:=hrel
  by_cases hlt:k<8
  ·have hlt':(k:Int)<8:=by omega
   have hr:0≤byteAt n k∧byteAt n k<256:=by unfold byteAt;omega
   have HC:=ħ (HC.out (F k) (byteAt n k) hr.1 hr.2)
   have HC2:Hid (Calls Tryz.prog 122 #[.int .u64 (F k),.int .u8 (n / 2 ^ (8 * k) % 256)] wr fun e w'=>e=.returned (.int .u64 (addB (F k) (byteAt n k)))∧wr=w'):=HC
   have HSk:=ħ (HS.out k)
   go_wp2_with (go_at_call 122;((with_reducible refine HC2.out.mono ?_);rintro e w1 ⟨rfl,rfl⟩))
   exact ⟨⟨k+1,by omega,by go_num,by rw[HSk.out],by trivial⟩,by simp[intOf];omega⟩
  ·have hge:¬ ((k:Int)<8):=by omega
   have HK:=ħ (show k=8 by omega)
   go_wp2
   go_ret
   obtain rfl:=HK.out
   exact ⟨rfl,rfl⟩
theorem update_any (B:Nat→Prop)(A:Option Addr)(c:Nat)(s:Int)(l:List Int)(w:World)(h:Reads w B 1 A l.length (bys l))(hB:Bytes l)(hl:l.length≤1000000000) :
 Calls Tryz.prog 88 #[.int .u64 s,.slice A l.length c] w fun e w'=>e=.returned (.int .u64 (updF s l))∧w=w':=by
 have HC:=ħ fun s b h0 h1=>addByte_any s b h0 h1 w
 have pA:=h.plain (by omega)
 have HF:=ħ (show updF s l=(l.take l.length).foldl addB s by rw[List.take_of_length_le (Nat.le_refl _)];rfl)
 have HB:=ħ hB
 clear hB
 go_enter Tryz.func88,Tryz.ntmps88
 go_wp2_with fail
 go_loopw [0,9] (fun vs vi wr=>∃ k:Nat,k≤l.length∧vi=.int .i64 k∧vs=.int .u64 ((l.take k).foldl addB s)∧wr=w) (fun _ i _=>l.length - (intOf i).toNat)
 case atStart=>exact ⟨0,by omega,rfl,rfl,rfl⟩
 case round=>
  obtain ⟨k,hk,rfl,rfl,rfl⟩:=hrel
  by_cases hlt:k<l.length
  ·have hlt':(k:Int)<l.length:=by omega
   have hix:=fun W=>ix31 pA c k hlt W
   have hc:=gdb_at h hlt
   have hr:=HB.out (gd l k) (by rw[gd_get hlt];exact List.getElem_mem hlt)
   have HSk:=ħ (show (l.take (k+1)).foldl addB s=addB ((l.take k).foldl addB s) (gd l k) by rw[List.take_succ_eq_append_getElem hlt,List.foldl_append,gd_get hlt];rfl)
   generalize (l.take k).foldl addB s=x at *
   generalize gd l k=y at *
   have HC:=ħ (HC.out x y hr.1 hr.2)
   go_wp2_with (go_at_call 122;((with_reducible refine HC.out.mono ?_);rintro e w1 ⟨rfl,rfl⟩))
   exact ⟨⟨k+1,by omega,by go_num,by rw[HSk.out],by trivial⟩,by simp[intOf];omega⟩
  ·have hge:¬ ((k:Int)<l.length):=by omega
   have HK:=ħ (show k=l.length by omega)
   go_wp2
   go_ret
   rw[HF.out,←HK.out]
   exact ⟨rfl,rfl⟩
theorem sum_nil (w:World):Calls Tryz.prog 57 #[.slice none 0 0] w fun e w'=>e=.returned (.int .u64 initS)∧w=w':=by
 have HU:=ħ (show Calls Tryz.prog 88 #[.int .u64 14695981039346656037,.slice none 0 0] w fun e w'=>e=.returned (.int .u64 initS)∧w=w' from update_any (fun _=>False) none 0 initS [] w Reads.none_ (fun x hx=>by simp at hx) (by simp))
 go_enter Tryz.func57,Tryz.ntmps57
 go_wp2_with (go_at_call 88;((with_reducible refine HU.out.mono ?_);rintro e w1 ⟨rfl,rfl⟩))
 go_ret
 exact ⟨rfl,rfl⟩
theorem chain_any (B:Nat→Prop)(A:Option Addr)(c:Nat)(prev kind:Int)(hk0:0≤kind)(hk1:kind<256)(l:List Int)(w:World)(h:Reads w B 1 A l.length (bys l))(hB:Bytes l)(hl:l.length≤1000000000) :
 Calls Tryz.prog 90 #[.int .u64 prev,.int .u8 kind,.slice A l.length c] w fun e w'=>e=.returned (.int .u64 (chF prev kind l))∧w=w':=by
 have H1:=ħ (show Calls Tryz.prog 123 #[.int .u64 14695981039346656037,.int .u64 prev] w fun e w'=>e=.returned (.int .u64 (addI initS prev 8))∧w=w' from addInt_any initS prev w)
 have H2:=ħ fun s=>addByte_any s kind hk0 hk1 w
 have H3:=ħ fun s=>addInt_any s (l.length:Int) w
 have H4:=ħ fun s=>update_any B A c s l w h hB hl
 have hw:IntKind.u64.wrap (l.length:Int)=l.length:=by rw[IntKind.wrap_u64];omega
 have HC:=ħ (show chF prev kind l=updF (addI (addB (addI initS prev 8) kind) (l.length:Int) 8) l from rfl)
 clear h hB
 generalize addI initS prev 8=x1 at *
 go_enter Tryz.func90,Tryz.ntmps90
 go_wp2_with (first
  | (go_at_call 123;((with_reducible refine H1.out.mono ?_);rintro e w1 ⟨rfl,rfl⟩))
  | (go_at_call 122;((with_reducible refine (H2.out _).mono ?_);rintro e w1 ⟨rfl,rfl⟩))
  | (go_at_call 123;((with_reducible refine (H3.out _).mono ?_);rintro e w1 ⟨rfl,rfl⟩))
  | (go_at_call 88;((with_reducible refine (H4.out _).mono ?_);rintro e w1 ⟨rfl,rfl⟩)))
 go_ret
 exact ⟨by rw[HC.out];rfl,rfl⟩
end Go.Proofs.YtdfobfjpkjddpaaGreat
namespace Go.Proofs.YtdfobfjpkjddpaaGreat
open Go.RowKit Go.Own Go.Quo Go.Wire
def FileP (w:World)(p:Nat)(X:Nat→Prop)(data:List Int)(dur:Int)(off:Bool):Prop:=
 ∃ A c,Blk w p 95 #[.slice A data.length c,.int .i64 dur,.bool off]∧w.ownsRow 0 5 1 (.slice A data.length c) data.length (bys data)∧∀ g,(Value.slice A data.length c).ownBlock=some g→X g
theorem FileP.fr {w w':World}{p:Nat}{X S:Nat→Prop}{data:List Int}{dur:Int}{off:Bool}(h:FileP w p X data dur off)(hf:Fr S w w')(hp:¬ S p)(hX:∀ g,X g→¬ S g):FileP w' p X data dur off:=by
 obtain ⟨A,c,h1,h2,h3⟩:=h
 refine ⟨A,c,h1.fr hf hp,?_,h3⟩
 rcases h2.2 with ⟨e1,e2⟩ | ⟨g,cap,cur,e1,e2,e3,e4⟩
 ·exact ⟨h2.1,.inl ⟨e1,e2⟩⟩
 ·exact ⟨h2.1,.inr ⟨g,cap,cur,e1,e2,(hf.block g (Array.getElem?_eq_some_iff.1 e3).1 (hX g (h3 g (by rw[e1];rfl)))).trans e3,e4⟩⟩
theorem FileP.lt {w:World}{p:Nat}{X:Nat→Prop}{data:List Int}{dur:Int}{off:Bool}(h:FileP w p X data dur off):p<w.heap.size:=by obtain ⟨A,c,h1,_⟩:=h;exact h1.lt
theorem own_set {w:World}{base:Nat}{e:TypeId}{size n:Nat}{v:Value}{xs:List Value}(h:w.ownsRow base e size v n xs){p:Addr}(hp:∀ g,v.ownBlock=some g→g≠p.block)(u:Value):(w.setCell p u).ownsRow base e size v n xs:=
 h.kept (row:=some p.block) ⟨rfl,rfl,rfl,by simp,fun k hk hne=>Below.heap_setCell w p u k (fun e=>hne (by rw[e]))⟩ (by
  cases hv:v.ownBlock with
  | none=>exact .inl rfl
  | some k=>right;intro e;cases e;exact hp _ hv rfl)
theorem own_ne {w:World}{base p:Nat}{e t:TypeId}{size n:Nat}{v:Value}{xs:List Value}{cs:Array Value}(h:w.ownsRow base e size v n xs)(hb:Blk w p t cs)(hne:e≠t):∀ g,v.ownBlock=some g→g≠p:=by
 intro g hg he
 subst he
 rcases h.2 with ⟨e1,e2⟩ | ⟨g',cap,cur,e1,e2,e3,e4⟩
 ·rw[e1] at hg;cases hg
 ·rw[e1] at hg
  simp[Value.ownBlock] at hg
  subst hg
  rw[hb] at e3
  injection e3 with e3
  injection e3 with _ e5
  exact hne e5.symm
theorem own_cap {w:World}{base:Nat}{e:TypeId}{size n c:Nat}{A:Option Addr}{xs:List Value}(h:w.ownsRow base e size (.slice A n c) n xs):n≤c:=by
 rcases h.2 with ⟨e1,e2⟩ | ⟨g,cap,cur,e1,e2,e3,e4,_⟩
 ·have:n=0:=e2
  omega
 ·injection e1 with _ _ e6
  omega
theorem storage_new (w:World):Calls Tryz.prog 11 #[] w fun e w'=>e=.returned (.pointer (some ⟨w.heap.size,0,none⟩))∧FileP w' w.heap.size (fun _=>False) [] 0 false∧Below w.heap.size w w':=by
 go_enter Tryz.func11,Tryz.ntmps11
 go_wp2
 go_ret
 refine ⟨rfl,⟨none,0,Blk.new w 95 _,World.ownsRow_nil _ _ _ _,fun g hg=>by cases hg⟩,(Below.refl _ _).alloc (Nat.le_refl _) _⟩
theorem sync_any (w:World)(p:Nat)(X:Nat→Prop)(data:List Int)(dur:Int)(h:FileP w p X data dur false) :
 Calls Tryz.prog 61 #[.pointer (some ⟨p,0,none⟩)] w fun e w'=>e=.returned (.int .i64 0)∧FileP w' p X data data.length false∧Fr (·=p) w w':=by
 obtain ⟨A,c,h1,h2,h3⟩:=h
 obtain ⟨q0,q1,q2⟩:=h1.facts
 go_enter Tryz.func61,Tryz.ntmps61
 go_wp2
 go_ret
 refine ⟨rfl,⟨A,c,by simpa using h1.set_ 1 (.int .i64 data.length),own_set h2 (own_ne h2 h1 (by decide)) _,h3⟩,(Fr.refl (fun x=>x=p) _).setCell (.inl rfl) _⟩
theorem powerOn_any (w:World)(p:Nat)(X:Nat→Prop)(data:List Int)(dur:Int)(off:Bool)(h:FileP w p X data dur off) :
 Calls Tryz.prog 50 #[.pointer (some ⟨p,0,none⟩)] w fun e w'=>e=.returned (.tuple #[])∧FileP w' p X data dur false∧Fr (·=p) w w':=by
 obtain ⟨A,c,h1,h2,h3⟩:=h
 obtain ⟨q0,q1,q2⟩:=h1.facts
 go_enter Tryz.func50,Tryz.ntmps50
 go_wp2
 refine bodyPost_end (v:=.tuple #[]) (by simp[results,Tryz.results50,go_sem]) rfl ⟨rfl,⟨A,c,by simpa using h1.set_ 2 (.bool false),own_set h2 (own_ne h2 h1 (by decide)) _,h3⟩,(Fr.refl (fun x=>x=p) _).setCell (.inl rfl) _⟩
theorem bytes_any (w:World)(p:Nat)(X:Nat→Prop)(data:List Int)(dur:Int)(h:FileP w p X data dur false)(hl:data.length≤16777216) :
 Calls Tryz.prog 56 #[.pointer (some ⟨p,0,none⟩)] w fun e w'=>∃ A c,e=.returned (.tuple #[.slice A data.length c,.int .i64 0])∧Reads w' (w.heap.size≤·) 1 A data.length (bys data)∧data.length≤c∧Below w.heap.size w w':=by
 obtain ⟨A,c,h1,h2,h3⟩:=h
 obtain ⟨q0,q1,q2⟩:=h1.facts
 have hr:=Reads.of_own h2
 go_enter Tryz.func56,Tryz.ntmps56
 go_wp2_with (at_builtin;refine wpList_append_any _ rfl _ _ _ rfl w.heap.size 5 _ 1 1 Tryz.underlying46 info5 rfl (by omega) (.slice none 0 0) 0 [] rfl (World.ownsRow_nil _ _ _ _) _ A data.length c (bys data) rfl hr (bys_one data) (by simp only[maxLen];omega) (by omega) (by simp) ?_;intro A4 c4 w4 hown4 hgr4 hat4)
 have hown4':w4.ownsRow w.heap.size 5 1 (.slice A4 data.length c4) data.length (bys data):=by simpa using hown4
 exact bodyPost_ret (v:=.tuple #[.slice A4 data.length c4,.int .i64 0]) (by simp[results,Tryz.results56,go_sem]) rfl ⟨A4,c4,rfl,(Reads.of_own hown4').more (fun g hg=>(hown4'.lt g hg).1),own_cap hown4',(Below.refl _ _).grown hgr4 (Nat.le_refl _) (fun g hg=>by cases hg)⟩
theorem write_any (w:World)(p:Nat)(X:Nat→Prop)(data:List Int)(dur:Int)(Bb:Nat→Prop)(Ab:Option Addr)(cb:Nat)(b:List Int)(h:FileP w p X data dur false)(hb:Reads w Bb 1 Ab b.length (bys b))(hl:data.length+b.length≤16777216) :
 Calls Tryz.prog 155 #[.pointer (some ⟨p,0,none⟩),.slice Ab b.length cb] w fun e w'=>e=.returned (.int .i64 0)∧FileP w' p (fun k=>X k∨w.heap.size≤k) (data ++ b) dur false∧Fr (fun k=>k=p∨X k) w w':=by
 obtain ⟨A,c,h1,h2,h3⟩:=h
 obtain ⟨q0,q1,q2⟩:=h1.facts
 have hn:=own_ne h2 h1 (by decide)
 have hsp:¬ ((16777216:Int) - data.length<b.length):=by omega
 go_enter Tryz.func155,Tryz.ntmps155
 go_wp2_with (at_builtin;refine wpList_append_any _ rfl _ _ _ rfl 0 5 _ 1 1 Tryz.underlying46 info5 rfl (by omega) (.slice A data.length c) data.length (bys data) rfl h2 _ Ab b.length cb (bys b) rfl hb (bys_one b) (by simp only[maxLen];omega) (by omega) (by simp) ?_;intro A4 c4 w4 hown4 hgr4 hat4;have j4:=h1.grown hgr4 (fun e=>hn p e.symm rfl);obtain ⟨y0,y1,y2⟩:=j4.facts)
 go_ret
 have e4:(data ++ b).length=data.length+b.length:=List.length_append
 have o4:w4.ownsRow 0 5 1 (.slice A4 (data ++ b).length c4) (data ++ b).length (bys (data ++ b)):=by rw[e4];simpa [bys] using hown4
 have hat:∀ g,(Value.slice A4 (data ++ b).length c4).ownBlock=some g→X g∨w.heap.size≤g:=by
  intro g hg
  rw[e4] at hg
  rcases hat4 with h | h
  ·rw[h] at hg;exact .inl (h3 g hg)
  ·rw[h] at hg;cases hg;exact .inr (Nat.le_refl _)
 refine ⟨rfl,⟨A4,c4,by rw[e4];simpa using j4.set_ 0 (.slice A4 (data.length+b.length) c4),own_set o4 (own_ne o4 j4 (by decide)) _,hat⟩,?_⟩
 exact ((Fr.refl (fun k=>k=p∨X k) w).grown hgr4 (fun k hk=>.inl (.inr (h3 k hk)))).setCell (.inl (.inl rfl)) _
theorem run_full {A:Option Addr}{n c:Nat}(hn:n≤c)(W:World):(Instr.slice 46 (.slice A n c) none (some (.int .i64 (n:Int))) none).run Tryz.prog W=.ok (.slice A n c) W:=by
 have hu:Tryz.prog.underlying 46=some (.slice (Tryz.prog.elem 46)):=by kernel_rfl
 have he:Tryz.prog.elem 46=5:=by kernel_rfl
 obtain ⟨i,h1,h2⟩:=i5x
 rw[run_slice_h W 46 A n c hu .i64 (n:Int) (by omega) (by omega),he]
 cases A with
 | none=>simp[sizeOf,typeInfo,h1,h2,sliced]
 | some a=>simp[sizeOf,typeInfo,h1,h2,sliced,add_zero_]
theorem run_full2 {A:Option Addr}{n c:Nat}(hn:n≤c)(W:World):(Instr.sliceAt 46 (.slice A n c) none (some (.int .i64 (n:Int))) none).run Tryz.prog W=.ok (.slice A n c) W:=by
 have hu:Tryz.prog.underlying 46=some (.slice (Tryz.prog.elem 46)):=by kernel_rfl
 rw[run_sliceAt_slice W 46 _ _ _ _ hu]
 exact run_full hn W
theorem truncate_full (w:World)(p:Nat)(X:Nat→Prop)(data:List Int)(dur:Int)(h:FileP w p X data dur false)(hd:dur≤data.length) :
 Calls Tryz.prog 60 #[.pointer (some ⟨p,0,none⟩),.int .i64 (data.length:Int)] w fun e w'=>e=.returned (.int .i64 0)∧FileP w' p X data dur false∧Fr (·=p) w w':=by
 obtain ⟨A,c,h1,h2,h3⟩:=h
 obtain ⟨q0,q1,q2⟩:=h1.facts
 have hc:=own_cap h2
 have r1:=fun W=>run_full (A:=A) hc W
 have r2:=fun W=>run_full2 (A:=A) hc W
 have hmin:min dur (data.length:Int)=dur:=Int.min_eq_left hd
 go_enter Tryz.func60,Tryz.ntmps60
 go_wp2
 go_ret
 refine ⟨rfl,⟨A,c,by simpa using (h1.set_ 0 (.slice A data.length c)).set_ 1 (.int .i64 dur),own_set (own_set h2 (own_ne h2 h1 (by decide)) _) (own_ne h2 h1 (by decide)) _,h3⟩,((Fr.refl (fun x=>x=p) _).setCell (.inl rfl) _).setCell (.inl rfl) _⟩
theorem powerFail_any (w:World)(p:Nat)(X:Nat→Prop)(data:List Int)(keep mask:Int)(h:FileP w p X data data.length false)(hl:data.length≤16777216)(hk0:0≤keep) :
 Calls Tryz.prog 12 #[.pointer (some ⟨p,0,none⟩),.int .i64 keep,.int .u8 mask] w fun e w'=>e=.returned (.tuple #[])∧FileP w' p X data data.length true∧Fr (·=p) w w':=by
 obtain ⟨A,c,h1,h2,h3⟩:=h
 have hc:=own_cap h2
 have r1:=fun W=>run_full (A:=A) hc W
 have r2:=fun W=>run_full2 (A:=A) hc W
 have hmx:max keep 0=keep:=by omega
 have hmn:min keep 0=0:=by omega
 have hz:(data.length:Int) - data.length=0:=by omega
 have hw0:IntKind.i64.wrap ((data.length:Int) - data.length)=0:=by rw[hz];rfl
 have hw1:IntKind.i64.wrap (data.length:Int)=data.length:=IntWalk.i64_in _ (by omega)
 have k1:=h1.set_ 2 (.bool true)
 have o1:=own_set h2 (own_ne h2 h1 (by decide)) (p:=⟨p,2,none⟩) (.bool true)
 have f1:Fr (fun x=>x=p) w (w.setCell ⟨p,2,none⟩ (.bool true)):=(Fr.refl (fun x=>x=p) _).setCell (.inl rfl) _
 simp only[σa,σc,σb] at k1
 obtain ⟨q0,q1,q2⟩:=h1.facts
 have H3:=ħ h3
 clear h3 hz
 rcases (show keep=0∨0<keep by omega) with rfl | hkp
 all_goals
  go_enter Tryz.func12,Tryz.ntmps12
  go_wp2_with fail
  generalize w.setCell ⟨p,2,none⟩ (.bool true)=W1 at *
  clear q0 q1 q2
  obtain ⟨q0,q1,q2⟩:=k1.facts
  go_quiet (fail)
  go_wp2_with fail
  refine wp_tail 14 (by kernel_rfl) (by kernel_rfl) (fun T hT=>?_)
  simp only[List.take_succ_cons,List.take_zero]
  repeat still_step
  refine wpStill_nil (hT _ ?_)
  clear hT T
  simp only[List.drop_succ_cons,List.drop_zero]
  go_wp2_with fail
  have kk:=(k1.set_ 0 (.slice A data.length c)).set_ 1 (.int .i64 data.length)
  simp only[σa,σc,σb] at kk
  have oo:=own_set (own_set o1 (own_ne o1 k1 (by decide)) (p:=⟨p,0,none⟩) (.slice A data.length c)) (own_ne o1 k1 (by decide)) (p:=⟨p,1,none⟩) (.int .i64 data.length)
  exact bodyPost_end (v:=.tuple #[]) (by simp[results,Tryz.results12,go_sem]) rfl ⟨rfl,⟨A,c,kk.drewN _,oo,H3.out⟩,((f1.setCell (.inl rfl) _).setCell (.inl rfl) _).drewN _⟩
end Go.Proofs.YtdfobfjpkjddpaaGreat
namespace Go.Wire
def le8 (s:Int):List Int:=(List.range 8).map (byteAt s)
def encR (prev kind:Int)(body:List Int):List Int:=za (body.length:Int) ++ [kind] ++ body ++ le8 (chF prev kind body)
def leTo (s:Int)(k:Nat):List Int:=(List.range k).map (byteAt s)
theorem leTo_succ (s:Int)(k:Nat):leTo s (k+1)=leTo s k ++ [byteAt s k]:=by
 unfold leTo
 rw[List.range_succ,List.map_append];rfl
theorem leTo_len (s:Int)(k:Nat):(leTo s k).length=k:=by simp[leTo]
end Go.Wire
namespace Go.Proofs.YtdfobfjpkjddpaaGreat
open Go.RowKit Go.Own Go.Quo Go.Wire
abbrev recV (kind:Int)(A:Option Addr)(n c:Nat):Value:=.agg #[.int .u8 kind,.slice A n c]
abbrev recC (kind:Int)(A:Option Addr)(n c:Nat):Array Value:=#[.int .u8 kind,.slice A n c]
theorem clone_any (B:Nat→Prop)(kind:Int)(A:Option Addr)(c:Nat)(body:List Int)(w:World)(h:Reads w B 1 A body.length (bys body))(hl:body.length≤1000000) :
 Calls Tryz.prog 59 #[recV kind A body.length c] w fun e w'=>∃ A' c',e=.returned (recV kind A' body.length c')∧Reads w' (w.heap.size≤·) 1 A' body.length (bys body)∧Below w.heap.size w w':=by
 have h0:=(h.alloc (.cells (recC kind A body.length c) 115)).alloc (.cells #[.int .u8 0,.slice none 0 0] 115)
 have g1:Blk ((w.alloc (.cells (recC kind A body.length c) 115)).alloc (.cells #[.int .u8 0,.slice none 0 0] 115)) w.heap.size 115 (recC kind A body.length c):=(Blk.new w 115 _).alloc _
 have g2:Blk ((w.alloc (.cells (recC kind A body.length c) 115)).alloc (.cells #[.int .u8 0,.slice none 0 0] 115)) (w.heap.size+1) 115 #[.int .u8 0,.slice none 0 0]:=by simpa using Blk.new (w.alloc (.cells (recC kind A body.length c) 115)) 115 #[.int .u8 0,.slice none 0 0]
 have b1:Below w.heap.size w ((w.alloc (.cells (recC kind A body.length c) 115)).alloc (.cells #[.int .u8 0,.slice none 0 0] 115)):=((Below.refl _ _).alloc (Nat.le_refl _) _).alloc (by simp) _
 have s1:w.heap.size+2≤((w.alloc (.cells (recC kind A body.length c) 115)).alloc (.cells #[.int .u8 0,.slice none 0 0] 115)).heap.size:=by simp
 clear h
 go_enter Tryz.func59,Tryz.ntmps59
 go_wp2_with fail
 generalize (w.alloc (.cells (recC kind A body.length c) 115)).alloc (.cells #[.int .u8 0,.slice none 0 0] 115)=W1 at *
 obtain ⟨q0,q1,q2⟩:=g1.facts
 go_region_law (first
  | (refine step_append_any _ (by rfl) (.const (.slice none 0 0)) (.tmp 6) _ (by rfl) W1.heap.size 5 (.int .u8 0) 1 1 Tryz.underlying46 info5 rfl (by omega) (.slice none 0 0) 0 [] (by rfl) (World.ownsRow_nil _ _ _ _) _ A body.length c (bys body) (by rfl) h0.drew (bys_one body) (by simp only[maxLen];omega) (by omega) (by simp) ?_
     intro A4 c4 w4 hown4 hgr4 hat4
     have j1:=(g1.drew).grown hgr4 (by simp[Value.ownBlock])
     have j4:=(g2.drew).grown hgr4 (by simp[Value.ownBlock])
     obtain ⟨x0,x1,x2⟩:=j1.facts
     obtain ⟨y0,y1,y2⟩:=j4.facts))
 all_goals
  go_wp2_with fail
  have ho:w4.ownsRow W1.heap.size 5 1 (.slice A4 body.length c4) body.length (bys body):=by simpa using hown4
  have hr:=(Reads.of_own ho).more (B':=(W1.heap.size≤·)) (fun g hg=>(ho.lt g hg).1)
  refine bodyPost_ret (v:=recV kind A4 body.length c4) (by simp[results,Tryz.results59,go_sem,y1]) rfl ⟨A4,c4,rfl,?_,?_⟩
  ·exact ((hr.setCell (by simp;omega) _).setCell (by simp;omega) _).more (fun g hg=>by omega)
  ·exact (((b1.drew).grown hgr4 (by have:=b1.size;simp;omega) (fun g hg=>by cases hg)).setCell (by simp) _).setCell (by simp) _
def ApPost (R:List Int)(sm:Int)(w:World)(e:Ending)(w':World):Prop:=∃ A' c',e=.returned (.tuple #[.slice A' R.length c',.int .u64 sm])∧Reads w' (w.heap.size≤·) 1 A' R.length (bys R)∧Below w.heap.size w w'
theorem appendRecord_nil (prev kind:Int)(hk0:0≤kind)(hk1:kind<256)(A:Option Addr)(c:Nat)(body:List Int)(w:World)(h:Reads w (· < w.heap.size) 1 A body.length (bys body))(hB:Bytes body)(hl:body.length≤8192) :
 Calls Tryz.prog 154 #[.slice none 0 0,.int .u64 prev,recV kind A body.length c] w (ApPost (encR prev kind body) (chF prev kind body) w):=by
 have h0:=(h.alloc (.cells (recC kind A body.length c) 115)).alloc (.cells #[.slice none 0 0] 160)
 have g1:Blk ((w.alloc (.cells (recC kind A body.length c) 115)).alloc (.cells #[.slice none 0 0] 160)) w.heap.size 115 (recC kind A body.length c):=(Blk.new w 115 _).alloc _
 have w1:WrP ((w.alloc (.cells (recC kind A body.length c) 115)).alloc (.cells #[.slice none 0 0] 160)) (w.heap.size+1) []:=by simpa using WrP.new (w.alloc (.cells (recC kind A body.length c) 115))
 have b1:Below w.heap.size w ((w.alloc (.cells (recC kind A body.length c) 115)).alloc (.cells #[.slice none 0 0] 160)):=((Below.refl _ _).alloc (Nat.le_refl _) _).alloc (by simp) _
 have hel:=encI_len (n:=(body.length:Int)) (by omega) (by omega)
 have HI:=ħ fun W' (x:WrP W' (w.heap.size+1) [])=>int_any (w.heap.size+1) (body.length:Int) [] W' x (by omega) (by omega) (by simp)
 have HEn:=ħ fun W' (x:WrP W' (w.heap.size+1) (za (body.length:Int)))=>encoded_cap (w.heap.size+1) _ W' x (by omega)
 have HCh:=ħ fun W' (x:Reads W' (· < w.heap.size) 1 A body.length (bys body))=>chain_any _ A c prev kind hk0 hk1 body W' x hB (by omega)
 have HE:=ħ (show encR prev kind body=za (body.length:Int) ++ [kind] ++ body ++ leTo (chF prev kind body) 8 from rfl)
 have HLs:=ħ (leTo_succ (chF prev kind body))
 have HLl:=ħ (leTo_len (chF prev kind body))
 have HL0:=ħ (show leTo (chF prev kind body) 0=[] from rfl)
 have HBy:=ħ fun k=>(show byteAt (chF prev kind body) k=chF prev kind body / 2 ^ (8 * k) % 256 from rfl)
 generalize encR prev kind body=R at *
 generalize leTo (chF prev kind body)=LE at *
 generalize byteAt (chF prev kind body)=BA at *
 generalize chF prev kind body=sm at *
 generalize za (body.length:Int)=en at *
 clear h hB
 go_enter Tryz.func154,Tryz.ntmps154
 go_wp2_with fail
 generalize (w.alloc (.cells (recC kind A body.length c) 115)).alloc (.cells #[.slice none 0 0] 160)=W1 at *
 refine (HI.out W1 w1).mono ?_
 rintro e w2 ⟨rfl,hw2,hB2⟩
 rw[List.nil_append] at hw2
 have g2:=g1.below hB2 (by omega)
 have h2:=h0.below hB2 (fun k hk=>by omega)
 have b2:=b1.trans (hB2.mono (by omega))
 clear w1 HI
 obtain ⟨q0,q1,q2⟩:=g2.facts
 go_wp2_with fail
 refine (HEn.out w2 hw2).mono ?_
 rintro e w3 ⟨A3,c3,rfl,r3,hB3,hc3⟩
 have g3:=g2.below hB3 g2.lt
 have h3:=h2.below hB3 (fun k hk=>by omega)
 have b3:=b2.trans (hB3.mono b2.size)
 have hs3:=hB3.size
 have hs2:=b2.size
 obtain ⟨x0,x1,x2⟩:=g3.facts
 go_wp2_with (first
  | (at_builtin;refine wpList_append_any _ rfl _ _ _ rfl w2.heap.size 5 _ 1 1 Tryz.underlying46 info5 rfl (by omega) (.slice none 0 0) 0 [] rfl (World.ownsRow_nil _ _ _ _) _ A3 en.length c3 (bys en) rfl r3 (bys_one en) (by simp only[maxLen];omega) (by omega) hs3 ?_;intro A4 c4 w4 hown4 hgr4 hat4;have g4:=g3.grown hgr4 (by simp[Value.ownBlock]);have h4:=h3.grown hgr4 (fun k hk=>by simp[Value.ownBlock]);have b4:=b3.grown hgr4 b3.size (fun g hg=>by cases hg);have o4:w4.ownsRow w2.heap.size 5 1 (.slice A4 en.length c4) en.length (bys en):=(by simpa using hown4);have s4:=hgr4.size;obtain ⟨y0,y1,y2⟩:=g4.facts)
  | (at_builtin;refine wpList_append_any _ rfl _ _ _ rfl w2.heap.size 5 _ 1 1 Tryz.underlying46 info5 rfl (by omega) (.slice A4 en.length c4) en.length (bys en) rfl (o4.alloc _) _ (some ⟨w4.heap.size,0,none⟩) 1 1 [.int .u8 kind] rfl (Reads.newS _ [.int .u8 kind] 5 (0,0) 1 1 rfl _ rfl) (by simp[Value.oneCell']) (by simp only[maxLen];omega) (by omega) (by simp;omega) ?_;intro A5 c5 w5 hown5 hgr5 hat5;have n5:=own_ne (o4.alloc (.cells #[.int .u8 kind] 5)) (g4.alloc (.cells #[.int .u8 kind] 5)) (by decide);have g5:=(g4.alloc _).grown hgr5 (fun e=>n5 _ e.symm rfl);have h5:=(h4.alloc _).grown hgr5 (fun k hk e=>by have:=(o4.lt k e.symm).1;omega);have b5:=(b4.alloc b4.size _).grown hgr5 (Nat.le_trans b4.size (by simp)) (fun g hg=>by have:=(o4.lt g hg).1;omega);have o5:w5.ownsRow w2.heap.size 5 1 (.slice A5 (en.length+1) c5) (en.length+1) (bys (en ++ [kind])):=(by simpa [bys] using hown5);have s5:=hgr5.size;obtain ⟨z0,z1,z2⟩:=g5.facts)
  | (at_builtin;refine wpList_append_any _ rfl _ _ _ rfl w2.heap.size 5 _ 1 1 Tryz.underlying46 info5 rfl (by omega) (.slice A5 (en.length+1) c5) (en.length+1) (bys (en ++ [kind])) rfl o5 _ A body.length c (bys body) rfl h5 (bys_one body) (by simp only[maxLen];omega) (by omega) (by simp at s5;omega) ?_;intro A6 c6 w6 hown6 hgr6 hat6;have n6:=own_ne o5 g5 (by decide);have g6:=g5.grown hgr6 (fun e=>n6 _ e.symm rfl);have h6:=h5.grown hgr6 (fun k hk e=>by have:=(o5.lt k e.symm).1;omega);have b6:=b5.grown hgr6 b5.size (fun g hg=>by have:=(o5.lt g hg).1;omega);have o6:w6.ownsRow w2.heap.size 5 1 (.slice A6 (en.length+1+body.length) c6) (en.length+1+body.length) (bys (en ++ [kind] ++ body)):=(by simpa [bys] using hown6);have s6:=hgr6.size;obtain ⟨t0,t1,t2⟩:=g6.facts;have HCh6:=ħ (HCh.out w6 h6))
  | (go_at_call 90;((with_reducible refine HCh6.out.mono ?_);rintro e w7 ⟨rfl,rfl⟩)))
 have s6':w2.heap.size≤w6.heap.size:=by simp at s5;omega
 clear g2 g3 g4 g5 h0 h2 h3 h4 h5 h6 b2 b3 b4 b5 o4 o5 hown4 hown5 hown6 hgr4 hgr5 hgr6 hat4 hat5 hat6 n5 n6 HCh HCh6 HEn q0 q1 q2 x0 x1 x2 y0 y1 y2 z0 z1 z2 t0 t1 t2 r3 hB3 hB2 hw2 g1 b1
 have HM:=ħ (show (en ++ [kind] ++ body).length=en.length+1+body.length by simp;omega)
 go_loopw [0,33] (fun vo vi wr=>∃ (k:Nat) (A':Option Addr) (c':Nat) (out:List Int),k≤8∧vi=.int .i64 k∧vo=.slice A' out.length c'∧out.length≤9000+k∧out=en ++ [kind] ++ body ++ LE k∧wr.ownsRow w2.heap.size 5 1 (.slice A' out.length c') out.length (bys out)∧w2.heap.size≤wr.heap.size∧Below w.heap.size w wr) (fun _ i _=>8 - (intOf i).toNat)
 case atStart=>exact ⟨0,A6,c6,en ++ [kind] ++ body,by omega,rfl,by rw[HM.out],by rw[HM.out];omega,by rw[HL0.out];simp,by rw[HM.out];exact o6,s6',b6⟩
 case round=>
  obtain ⟨k,A',c',out,hk,rfl,rfl,hol,hout,hown,hsw,hb⟩:=hrel
  have HO:=ħ hout
  clear hout
  by_cases hlt:k<8
  ·have hlt':(k:Int)<8:=by omega
   have HLk:=ħ (HLs.out k)
   have HBk:=ħ (HBy.out k)
   obtain ⟨v,hv⟩:∃ v,sm / 2 ^ (8 * k) % 256=v:=⟨_,rfl⟩
   have HV:=ħ (show BA k=v by rw[HBk.out,hv])
   go_wp2_with (at_builtin;refine wpList_append_any _ rfl _ _ _ rfl w2.heap.size 5 _ 1 1 Tryz.underlying46 info5 rfl (by omega) (.slice A' out.length c') out.length (bys out) rfl (hown.alloc _) _ (some ⟨wr.heap.size,0,none⟩) 1 1 [.int .u8 v] rfl (Reads.newS _ [.int .u8 v] 5 (0,0) 1 1 rfl _ rfl) (by simp[Value.oneCell']) (by simp only[maxLen];omega) (by omega) (by simp;omega) ?_;intro A8 c8 w8 hown8 hgr8 hat8)
   have e8:(out ++ [v]).length=out.length+1:=by simp
   have s8:=hgr8.size
   refine ⟨⟨k+1,A8,c8,out ++ [v],by omega,by go_num,by rw[e8],by omega,?_,by rw[e8];simpa [bys] using hown8,by simp at s8;omega,(hb.alloc hb.size _).grown hgr8 (Nat.le_trans hb.size (by simp)) (fun g hg=>by have:=(hown.lt g hg).1;omega)⟩,by simp[intOf];omega⟩
   rw[HLk.out,HV.out,HO.out];simp
  ·have hge:¬ ((k:Int)<8):=by omega
   have HK:=ħ (show out=R by rw[HE.out,HO.out,show k=8 by omega])
   go_wp2
   obtain rfl:=HK.out
   exact bodyPost_ret (v:=.tuple #[.slice A' out.length c',.int .u64 sm]) (by simp[results,Tryz.results154,go_sem]) rfl ⟨A',c',rfl,(Reads.of_own hown).more (fun g hg=>by have:=(hown.lt g hg).1;omega),hb⟩
end Go.Proofs.YtdfobfjpkjddpaaGreat
namespace Go.Wire
theorem encU_high:∀ (u i:Nat),i+1<(encU u).length→128≤Quo.gd (encU u) i:=by
 intro u
 induction u using Nat.strongRecOn with
 | ind u ih=>
  intro i hi
  by_cases h:u<128
  ·rw[encU_lt h] at hi;simp at hi
  ·rw[encU_ge h] at hi⊢
   cases i with
   | zero=>simp[Quo.gd];omega
   | succ i=>
    have:=ih (u / 128) (by omega) i (by simpa using hi)
    simpa [Quo.gd] using this
theorem encU_last:∀ (u:Nat),Quo.gd (encU u) ((encU u).length - 1)<128:=by
 intro u
 induction u using Nat.strongRecOn with
 | ind u ih=>
  by_cases h:u<128
  ·rw[encU_lt h];simp[Quo.gd];omega
  ·have:=ih (u / 128) (by omega)
   have hp:=encU_pos (u / 128)
   rw[encU_ge h]
   simp only[List.length_cons,Nat.add_sub_cancel]
   have e:(encU (u / 128)).length=((encU (u / 128)).length - 1)+1:=by omega
   rw[e]
   simpa [Quo.gd] using this
theorem encI_len3 {n:Int}(h0:0≤n)(h1:n≤8192):(za n).length≤3:=encU_len 2 _ (by unfold zig;rw[if_pos h0];omega)
theorem encU_bytes:∀ u:Nat,Bytes (encU u):=by
 intro u
 induction u using Nat.strongRecOn with
 | ind u ih=>
  by_cases h:u<128
  ·rw[encU_lt h];intro x hx;simp at hx;omega
  ·rw[encU_ge h]
   intro x hx
   rcases List.mem_cons.1 hx with rfl | hx
   ·omega
   ·exact ih (u / 128) (by omega) x hx
theorem gd_left {a b:List Int}{i:Nat}(h:i<a.length):Quo.gd (a ++ b) i=Quo.gd a i:=by
 rw[Quo.gd_get (by rw[List.length_append];omega),Quo.gd_get h,List.getElem_append_left h]
theorem gd_right {a b:List Int}{i:Nat}(h:i<b.length):Quo.gd (a ++ b) (a.length+i)=Quo.gd b i:=by
 rw[Quo.gd_get (by rw[List.length_append];omega),Quo.gd_get h,List.getElem_append_right (by omega)]
 congr 1;omega
end Go.Wire
namespace Go.Proofs.YtdfobfjpkjddpaaGreat
open Go.RowKit Go.Own Go.Quo Go.Wire
theorem run_high {A:Option Addr}{n c k:Nat}(hk:k≤c)(W:World):(Instr.slice 46 (.slice A n c) none (some (.int .i64 (k:Int))) none).run Tryz.prog W=.ok (.slice A k c) W:=by
 have hu:Tryz.prog.underlying 46=some (.slice (Tryz.prog.elem 46)):=by kernel_rfl
 have he:Tryz.prog.elem 46=5:=by kernel_rfl
 obtain ⟨i,h1,h2⟩:=i5x
 rw[run_slice_h W 46 A n c hu .i64 (k:Int) (by omega) (by omega),he]
 cases A with
 | none=>simp[sizeOf,typeInfo,h1,h2,sliced]
 | some a=>simp[sizeOf,typeInfo,h1,h2,sliced,add_zero_]
theorem run_high2 {A:Option Addr}{n c k:Nat}(hk:k≤c)(W:World):(Instr.sliceAt 46 (.slice A n c) none (some (.int .i64 (k:Int))) none).run Tryz.prog W=.ok (.slice A k c) W:=by
 have hu:Tryz.prog.underlying 46=some (.slice (Tryz.prog.elem 46)):=by kernel_rfl
 rw[run_sliceAt_slice W 46 _ _ _ _ hu]
 exact run_high hk W
theorem Reads.front {w:World}{B:Nat→Prop}{A:Option Addr}{a b:List Int}(h:Reads w B 1 A (a ++ b).length (bys (a ++ b))):Reads w B 1 A a.length (bys a):=by
 refine ⟨by simp,fun hn=>?_⟩
 obtain ⟨ad,e1,e2,e3⟩:=h.2 (by rw[List.length_append];omega)
 refine ⟨ad,e1,e2,fun j u hu=>e3 j u ?_⟩
 have hj:j<(bys a).length:=(List.getElem?_eq_some_iff.1 hu).1
 rw[bys,List.map_append,List.getElem?_append_left hj]
 exact hu
theorem readLength_nil (A:Option Addr)(c:Nat)(w:World):Calls Tryz.prog 89 #[.slice A 0 c] w fun e w'=>e=.returned (.tuple #[.int .i64 0,.int .i64 0,.bool false])∧w=w':=by
 go_enter Tryz.func89,Tryz.ntmps89
 go_wp2_with fail
 go_loopw [5] (fun vi wr=>vi=.int .i64 0∧wr=w) (fun _ _=>0)
 case atStart=>exact ⟨rfl,rfl⟩
 case round=>
  obtain ⟨rfl,rfl⟩:=hrel
  go_wp2
  exact bodyPost_ret (v:=.tuple #[.int .i64 0,.int .i64 0,.bool false]) (by simp[results,Tryz.results89,go_sem]) rfl ⟨rfl,rfl⟩
theorem readLength_ok (B:Nat→Prop)(A:Option Addr)(c:Nat)(n:Nat)(tail:List Int)(w:World)(hn:n≤8192)(h:Reads w B 1 A (za (n:Int) ++ tail).length (bys (za (n:Int) ++ tail)))(hc:(za (n:Int) ++ tail).length≤c)(hl:tail.length≤100000000) :
 Calls Tryz.prog 89 #[.slice A (za (n:Int) ++ tail).length c] w fun e w'=>e=.returned (.tuple #[.int .i64 (n:Int),.int .i64 ((za (n:Int)).length:Int),.bool true])∧Below w.heap.size w w':=by
 have pA:=h.plain (by omega)
 have h3:=encI_len3 (n:=(n:Int)) (by omega) (by omega)
 have h1:1≤(za (n:Int)).length:=encU_pos _
 have hlen:(za (n:Int) ++ tail).length=(za (n:Int)).length+tail.length:=List.length_append
 have HHi:=ħ fun i (hi:i+1<(za (n:Int)).length)=>(show 128≤gd (za (n:Int) ++ tail) i by rw[gd_left (by omega)];exact encU_high _ i hi)
 have HLa:=ħ (show gd (za (n:Int) ++ tail) ((za (n:Int)).length - 1)<128 by rw[gd_left (by omega)];exact encU_last _)
 have hrd:rdI (za (n:Int))=(0,(n:Int),[]):=by have:=rdI_enc (n:=(n:Int)) (by omega) (by omega) [];rwa [List.append_nil] at this
 have hf:=Reads.front h
 have hby:Bytes (za (n:Int)):=encU_bytes _
 have HNr:=ħ fun W' (x:Reads W' B 1 A (za (n:Int)).length (bys (za (n:Int))))=>newReader_any B A c (za (n:Int)) W' x (by omega)
 have HIn:=ħ fun W' p B' (x:RdP W' p B' (za (n:Int)) 0) (hp:¬ B' p)=>(show Calls Tryz.prog 92 #[.pointer (some ⟨p,0,none⟩)] W' (fun e w'=>e=.returned (.int .i64 (n:Int))∧RdP w' p B' [] 0∧Fr (·=p) W' w') by
  have:=int_ok p B' (za (n:Int)) W' x hp hby
  rw[hrd] at this
  exact this)
 have HFi:=ħ fun W' p B' (x:RdP W' p B' [] 0)=>(show Calls Tryz.prog 93 #[.pointer (some ⟨p,0,none⟩)] W' (fun e w'=>e=.returned (.int .i64 0)∧W'=w') from finish_any p B' [] 0 W' x)
 have hrb:=ħ fun i (hi:i<(za (n:Int) ++ tail).length)=>gdb_at h hi
 have hci:(za (n:Int)).length≤c:=by omega
 clear hrd hby
 generalize za (n:Int)=en at *
 obtain ⟨L,hL⟩:∃ L:Nat,(en ++ tail).length=L:=⟨_,rfl⟩
 rw[hL] at h hc hlen hrb⊢
 rw[hL] at pA
 generalize en ++ tail=b at *
 have hle1:L≤en.length+tail.length:=by omega
 have hle2:en.length+tail.length≤L:=by omega
 clear hL hlen
 go_enter Tryz.func89,Tryz.ntmps89
 go_wp2_with fail
 go_loopw [5] (fun vi wr=>∃ k:Nat,k+1≤en.length∧vi=.int .i64 k∧wr=w) (fun i _=>en.length - (intOf i).toNat)
 case atStart=>exact ⟨0,by omega,rfl,rfl⟩
 case round=>
  obtain ⟨k,hk,rfl,rfl⟩:=hrel
  have hkL:k<L:=by omega
  have hkL':(k:Int)<L:=by omega
  have hix:=fun W=>ix31 pA c k hkL W
  have hcell:=hrb.out k hkL
  by_cases hlast:k+1<en.length
  ·have hge:=HHi.out k hlast
   have h33:¬ ((3:Int)<(k:Int)+1):=by omega
   go_wp2_with fail
   exact ⟨⟨k+1,by omega,by go_num,by trivial⟩,by simp[intOf];omega⟩
  ·have hlt:¬ (128:Int)≤gd b k:=by have:=HLa.out;rw[show en.length - 1=k by omega] at this;omega
   have hne:((k:Int) == (L:Int))=false:=beq_eq_false_iff_ne.2 (by omega)
   have hE:=ħ (show k+1=en.length by omega)
   have r1:=fun W=>run_high (A:=A) (n:=L) (c:=c) (k:=k+1) (by omega) W
   have r2:=fun W=>run_high2 (A:=A) (n:=L) (c:=c) (k:=k+1) (by omega) W
   simp only[Int.natCast_add,Int.natCast_one] at r1 r2
   have HNr:=ħ (HNr.out wr hf)
   rw[←hE.out] at HNr
   go_wp2_with fail
   refine HNr.out.mono ?_
   rintro e w2 ⟨rfl,hr2,hB2⟩
   have hn0:¬ ((n:Int)<0):=by omega
   have hn8:¬ ((8192:Int)<n):=by omega
   go_wp2_with fail
   refine (HIn.out w2 _ _ hr2 (by omega)).mono ?_
   rintro e w3 ⟨rfl,hr3,hf3⟩
   have HF3:=ħ (HFi.out w3 _ _ hr3)
   have hs2:=hB2.size
   have b3:=hB2.trans (hf3.below (B:=wr.heap.size) hB2.size (fun j hj=>by omega))
   go_wp2_with (go_at_call 93;((with_reducible refine HF3.out.mono ?_);rintro e w4 ⟨rfl,rfl⟩))
   refine bodyPost_ret (v:=.tuple #[.int .i64 (n:Int),.int .i64 ((k:Int)+1),.bool true]) (by simp[results,Tryz.results89,go_sem]) rfl ⟨?_,b3⟩
   rw[←hE.out];simp
end Go.Proofs.YtdfobfjpkjddpaaGreat
