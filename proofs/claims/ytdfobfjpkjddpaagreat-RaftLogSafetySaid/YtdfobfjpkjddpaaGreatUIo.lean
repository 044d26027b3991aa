import Derived.Lib.Hide
namespace Go
abbrev ι (z:Int):Value:=.int .i64 z
abbrev ζ:Array Value:=#[ι 0,ι 0,.string ⟨#[]⟩,.slice none 0 0,ι 0,ι 0,.slice none 0 0,.slice none 0 0,ι 0,.bool false]
abbrev κ:Array Value:=#[ι 0,ι 0,ι 0,.string ⟨#[]⟩,.slice none 0 0,ι 0,ι 0,.bool false]
theorem ħ {p:Prop}(h:p):RowKit.Hid p:=h
theorem σa {α:Type _}{l:List α}{i:Nat}{a:α}:l.toArray.setIfInBounds i a=(l.set i a).toArray:=List.setIfInBounds_toArray ..
theorem σb {α:Type _}{l:List α}{a b:α}:(a::l).set 0 b=b::l:=List.set_cons_zero ..
theorem σc {α:Type _}{l:List α}{i:Nat}{a b:α}:(a::l).set (i+1) b=a::l.set i b:=List.set_cons_succ ..
end Go
