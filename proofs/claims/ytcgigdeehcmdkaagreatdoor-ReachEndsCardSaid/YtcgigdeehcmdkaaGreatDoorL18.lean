/- Walks that split at every test; results told by what holds of them. -/
import Derived.Test.YtcgigdeehcmdkaaGreatDoorL12
set_option linter.all false
namespace Go.Proofs.YtcgigdeehcmdkaaGreatDoor.Ev
open Go Go.RowKit
set_option maxRecDepth 100000
def KZ(T:Tb)(md:C9)(res:List ResultVar)(G:A->Prop)(ex:Ex)(st:St):Prop:=match ex with|.out _=>False|_=>∃r,(dI T st res).bind (oT md st.H)=some r/\G r
section
variable{C:Ctx}{k:List It}{st:St}{Q:Ex->St->Prop}{dst:Option Nat}{n:Nat}{ms:List MOp}
theorem aEN{T:Tb}{md:C9}{res:List ResultVar}{G:A->Prop}:KZ T md res G .go st↔∃r,(dI T st res).bind (oT md st.H)=some r/\G r:=Iff.rfl
theorem V3{T:Tb}{md:C9}{res:List ResultVar}{G:A->Prop}:KZ T md res G .back st↔∃r,(dI T st res).bind (oT md st.H)=some r/\G r:=Iff.rfl
theorem bJ{f:FuncId}{m:MFn}{zs:List A}{G:A->Prop}(hB:C.B f=some m)(hX:C.X f zs=none)(hl:zs.length<=m.nt)(h:aT C [.code m.body] ⟨iO 0 zs,[]⟩ (KZ C.T m.mode m.res G)):∃r,EvQ C f zs r/\G r:=by obtain⟨N,ex,st',h1,hq⟩:=h;cases ex with|out id=>exact hq.elim|go=>obtain⟨r,h2,h3⟩:=hq;exact⟨r,tW hB hX hl ⟨N,.go,st',h1,h2⟩,h3⟩|back=>obtain⟨r,h2,h3⟩:=hq;exact⟨r,tW hB hX hl ⟨N,.back,st',h1,h2⟩,h3⟩
theorem aX{t:Bool}{a b:M}(h1:t=true->aT C (.code a::k) st Q)(h2:t=false->aT C (.code b::k) st Q):aT C (.code (bif t then a else b)::k) st Q:=by grind
theorem cY{t:Bool}{m:MOp}(h1:t=true->lV C (some true) n m ms st k Q)(h2:t=false->lV C (some false) n m ms st k Q):lV C (some t) n m ms st k Q:=by cases t;{simp_all};simp_all
theorem aG{f:FuncId}{zs:List A}{G:A->aE->Prop}{e:Env}{H:aE}(h:aU C f zs H G)(hk:∀x H',G x H'->iB C 0 ms ⟨put e dst x,H'⟩ k Q):kX C f zs dst ms ⟨e,H⟩ k Q:=by obtain⟨x,H',h1,h2⟩:=h;exact⟨x,H',h1,hk x H' h2⟩
end
theorem JM{C:Ctx}{f:FuncId}{zs:List A}{dst:Option Nat}{ms:List MOp}{e:Env}{H:aE}{k:List It}{Q:Ex->Ev.St->Prop}{x:A}{H':aE}(h:EvO C f zs H x H')(hk:iB C 0 ms ⟨put e dst x,H'⟩ k Q):kX C f zs dst ms ⟨e,H⟩ k Q:=⟨x,H',h,hk⟩
section
variable{α:Type}
theorem c8(H:List α)(x:α)(l:List α):(H++x::l)[H.length]?=some x:=by simp
theorem O0(H:List α)(x y:α)(l:List α):(H++x::l).set H.length y=H++y::l:=by simp
theorem aO(H l:List α)(k:Nat):(H++l)[H.length+k]?=l[k]?:=by grind
theorem JS(H l:List α)(k:Nat)(y:α):(H++l).set (H.length+k) y=H++l.set k y:=by simp
end
section
variable{α:Type}
theorem bW{H:List α}{i:Nat}(h:i<H.length)(l:List α)(x:α):(H++l).set i x=H.set i x++l:=List.set_append_left _ _ h
theorem aKN(H:List α)(i:Nat)(z x:α)(l:List α):(H.set i z++x::l)[H.length]?=some x:=by simp
theorem bS(H l:List α)(i:Nat)(z:α)(k:Nat):(H.set i z++l)[H.length+k]?=l[k]?:=by grind
theorem aFU(H:List α)(i:Nat)(z x y:α)(l:List α):(H.set i z++x::l).set H.length y=H.set i z++y::l:=by simp
theorem aJM(H l:List α)(i:Nat)(z:α)(k:Nat)(y:α):(H.set i z++l).set (H.length+k) y=H.set i z++l.set k y:=by simp
end
theorem aC{H:aE}{i:Nat}{a:Option Blk}(h:H[i]?=some a)(l:aE):(H++l)[i]?=some a:=by grind
theorem aI{H:aE}{i j:Nat}{a:Option Blk}(h:H[i]?=some a)(hne:j≠i)(x:Option Blk):(H.set j x)[i]?=some a:=by simp_all
attribute [go_sem] aEN V3 exists_eq_left' c8 O0 aO JS bW aKN bS aFU aJM List.length_append List.length_set List.append_assoc
