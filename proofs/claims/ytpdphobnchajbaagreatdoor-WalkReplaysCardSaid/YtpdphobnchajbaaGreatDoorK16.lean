/- Walks that split at every test; results told by what holds of them. -/
import Derived.Test.YtpdphobnchajbaaGreatDoorK09
set_option linter.all false
namespace Go.Proofs.YtpdphobnchajbaaGreatDoor.Ev
open Go Go.RowKit
set_option maxRecDepth 100000
def K6(T:Tb)(md:D3)(res:List ResultVar)(G:A->Prop)(ex:Ex)(st:St):Prop:=match ex with|.out _=>False|_=>∃r,(dE T st res).bind (pY md st.H)=some r/\G r
section
variable{C:Ctx}{k:List It}{st:St}{Q:Ex->St->Prop}{dst:Option Nat}{n:Nat}{ms:List MOp}
theorem aKj{T:Tb}{md:D3}{res:List ResultVar}{G:A->Prop}:K6 T md res G .go st↔∃r,(dE T st res).bind (pY md st.H)=some r/\G r:=Iff.rfl
theorem VQ{T:Tb}{md:D3}{res:List ResultVar}{G:A->Prop}:K6 T md res G .back st↔∃r,(dE T st res).bind (pY md st.H)=some r/\G r:=Iff.rfl
theorem bV{f:FuncId}{m:MFn}{zs:List A}{G:A->Prop}(hB:C.B f=some m)(hX:C.X f zs=none)(hl:zs.length<=m.nt)(h:aW C [.code m.body] ⟨iH 0 zs,[]⟩ (K6 C.T m.mode m.res G)):∃r,EvQ C f zs r/\G r:=by obtain⟨N,ex,st',h1,hq⟩:=h;cases ex with|out id=>exact hq.elim|go=>obtain⟨r,h2,h3⟩:=hq;exact⟨r,vR hB hX hl ⟨N,.go,st',h1,h2⟩,h3⟩|back=>obtain⟨r,h2,h3⟩:=hq;exact⟨r,vR hB hX hl ⟨N,.back,st',h1,h2⟩,h3⟩
theorem aX{t:Bool}{a b:M}(h1:t=true->aW C (.code a::k) st Q)(h2:t=false->aW C (.code b::k) st Q):aW C (.code (bif t then a else b)::k) st Q:=by cases t;{exact h2 rfl};{exact h1 rfl}
theorem bS{t:Bool}{m:MOp}(h1:t=true->mU C (some true) n m ms st k Q)(h2:t=false->mU C (some false) n m ms st k Q):mU C (some t) n m ms st k Q:=by cases t;{exact h2 rfl};{exact h1 rfl}
theorem aJ{f:FuncId}{zs:List A}{G:A->aG->Prop}{e:Env}{H:aG}(h:bQ C f zs H G)(hk:∀x H',G x H'->fY C 0 ms ⟨put e dst x,H'⟩ k Q):f7 C f zs dst ms ⟨e,H⟩ k Q:=by obtain⟨x,H',h1,h2⟩:=h;exact⟨x,H',h1,hk x H' h2⟩
end
theorem HN{C:Ctx}{f:FuncId}{zs:List A}{dst:Option Nat}{ms:List MOp}{e:Env}{H:aG}{k:List It}{Q:Ex->Ev.St->Prop}{x:A}{H':aG}(h:EvO C f zs H x H')(hk:fY C 0 ms ⟨put e dst x,H'⟩ k Q):f7 C f zs dst ms ⟨e,H⟩ k Q:=⟨x,H',h,hk⟩
section
variable{α:Type}
theorem eY(H:List α)(x:α)(l:List α):(H++x::l)[H.length]?=some x:=by simp
theorem F8(H:List α)(x y:α)(l:List α):(H++x::l).set H.length y=H++y::l:=by simp
theorem aU(H l:List α)(k:Nat):(H++l)[H.length+k]?=l[k]?:=by rw[List.getElem?_append_right (by omega),Nat.add_sub_cancel_left]
theorem BI(H l:List α)(k:Nat)(y:α):(H++l).set (H.length+k) y=H++l.set k y:=by rw[List.set_append_right _ _ (by omega),Nat.add_sub_cancel_left]
end
section
variable{α:Type}
theorem iZ{H:List α}{i:Nat}(h:i<H.length)(l:List α)(x:α):(H++l).set i x=H.set i x++l:=List.set_append_left _ _ h
theorem T9(H:List α)(i:Nat)(z x:α)(l:List α):(H.set i z++x::l)[H.length]?=some x:=by have:=eY (H.set i z) x l;rwa [List.length_set]at this
theorem dT(H l:List α)(i:Nat)(z:α)(k:Nat):(H.set i z++l)[H.length+k]?=l[k]?:=by have:=aU (H.set i z) l k;rwa [List.length_set]at this
theorem aEl(H:List α)(i:Nat)(z x y:α)(l:List α):(H.set i z++x::l).set H.length y=H.set i z++y::l:=by have:=F8 (H.set i z) x y l;rwa [List.length_set]at this
theorem aI6(H l:List α)(i:Nat)(z:α)(k:Nat)(y:α):(H.set i z++l).set (H.length+k) y=H.set i z++l.set k y:=by have:=BI (H.set i z) l k y;rwa [List.length_set]at this
end
theorem aE{H:aG}{i:Nat}{a:Option Blk}(h:H[i]?=some a)(l:aG):(H++l)[i]?=some a:=by rw[List.getElem?_append_left (List.getElem?_eq_some_iff.1 h).1];exact h
theorem aM{H:aG}{i j:Nat}{a:Option Blk}(h:H[i]?=some a)(hne:j≠i)(x:Option Blk):(H.set j x)[i]?=some a:=by rw[List.getElem?_set_ne hne];exact h
attribute [go_sem] aKj VQ exists_eq_left' eY F8 aU BI iZ T9 dT aEl aI6 List.length_append List.length_set List.append_assoc
