/- Walks that split at every test; results told by what holds of them. -/
import Derived.Test.YtfkegfjggibdhaaGreatDoorN11
set_option linter.all false
namespace Go.Proofs.YtfkegfjggibdhaaGreatDoor.Ev
open Go Go.RowKit
set_option maxRecDepth 100000
def VK(T:Tb)(md:DZ)(res:List ResultVar)(G:A->Prop)(ex:Ex)(st:St):Prop:=match ex with|.out _=>False|_=>∃r,(dD T st res).bind (p8 md st.H)=some r/\G r
section
variable{C:Ctx}{k:List It}{st:St}{Q:Ex->St->Prop}{dst:Option Nat}{n:Nat}{ms:List MOp}
theorem aFo{T:Tb}{md:DZ}{res:List ResultVar}{G:A->Prop}:VK T md res G .go st↔∃r,(dD T st res).bind (p8 md st.H)=some r/\G r:=im
theorem SW{T:Tb}{md:DZ}{res:List ResultVar}{G:A->Prop}:VK T md res G .back st↔∃r,(dD T st res).bind (p8 md st.H)=some r/\G r:=im
theorem cQ{f:FuncId}{m:MFn}{zs:List A}{G:A->Prop}(hB:C.B f=some m)(hX:C.X f zs=none)(hl:zs.length<=m.nt)(h:aY C [.code m.body] ⟨i5 0 zs,[]⟩ (VK C.T m.mode m.res G)):∃r,EvQ C f zs r/\G r:=by obtain⟨N,ex,st',h1,hq⟩:=h;cases ex with|out id=>exact hq.elim|go=>obtain⟨r,h2,h3⟩:=hq;exact⟨r,jO hB hX hl ⟨N,.go,st',h1,h2⟩,h3⟩|back=>obtain⟨r,h2,h3⟩:=hq;exact⟨r,jO hB hX hl ⟨N,.back,st',h1,h2⟩,h3⟩
theorem bU{t:Bool}{a b:M}(h1:t=true->aY C (.code a::k) st Q)(h2:t=false->aY C (.code b::k) st Q):aY C (.code (bif t then a else b)::k) st Q:=by grind
theorem eP{t:Bool}{m:MOp}(h1:t=true->mY C (some true) n m ms st k Q)(h2:t=false->mY C (some false) n m ms st k Q):mY C (some t) n m ms st k Q:=by cases t;{simp_all};simp_all
theorem aM{f:FuncId}{zs:List A}{G:A->aF->Prop}{e:Env}{H:aF}(h:bK C f zs H G)(hk:∀x H',G x H'->gJ C 0 ms ⟨put e dst x,H'⟩ k Q):lI C f zs dst ms ⟨e,H⟩ k Q:=by obtain⟨x,H',h1,h2⟩:=h;exact⟨x,H',h1,hk x H' h2⟩
end
theorem KS{C:Ctx}{f:FuncId}{zs:List A}{dst:Option Nat}{ms:List MOp}{e:Env}{H:aF}{k:List It}{Q:Ex->Ev.St->Prop}{x:A}{H':aF}(h:EvO C f zs H x H')(hk:gJ C 0 ms ⟨put e dst x,H'⟩ k Q):lI C f zs dst ms ⟨e,H⟩ k Q:=⟨x,H',h,hk⟩
section
variable{α:Type}
theorem eU(H:List α)(x:α)(l:List α):(H++x::l)[H.length]?=some x:=by simp
theorem uH(H:List α)(x y:α)(l:List α):(H++x::l).set H.length y=H++y::l:=by simp
theorem aR(H l:List α)(k:Nat):(H++l)[H.length+k]?=l[k]?:=by grind
theorem I0(H l:List α)(k:Nat)(y:α):(H++l).set (H.length+k) y=H++l.set k y:=by simp
end
section
variable{α:Type}
theorem eK{H:List α}{i:Nat}(h:i<H.length)(l:List α)(x:α):(H++l).set i x=H.set i x++l:=ik _ _ h
theorem GZ(H:List α)(i:Nat)(z x:α)(l:List α):(H.set i z++x::l)[H.length]?=some x:=by simp
theorem eE(H l:List α)(i:Nat)(z:α)(k:Nat):(H.set i z++l)[H.length+k]?=l[k]?:=by grind
theorem aGR(H:List α)(i:Nat)(z x y:α)(l:List α):(H.set i z++x::l).set H.length y=H.set i z++y::l:=by simp
theorem aEJ(H l:List α)(i:Nat)(z:α)(k:Nat)(y:α):(H.set i z++l).set (H.length+k) y=H.set i z++l.set k y:=by simp
end
theorem aC{H:aF}{i:Nat}{a:Option Blk}(h:H[i]?=some a)(l:aF):(H++l)[i]?=some a:=by grind
theorem aJ{H:aF}{i j:Nat}{a:Option Blk}(h:H[i]?=some a)(hne:j≠i)(x:Option Blk):(H.set j x)[i]?=some a:=by simp_all
attribute [go_sem] aFo SW exists_eq_left' eU uH aR I0 eK GZ eE aGR aEJ am bj List.append_assoc
set_option maxHeartbeats 16000000
open Classical in noncomputable def XE(C:Ctx)(S:List Nat)(X:FuncId->List A->Option A)(f:FuncId)(l:List A):Option A:=if h:f∈S/\∃r,EvQ C f l r then some (Classical.choose h.2)else X f l
theorem mL{C:Ctx}{S:List Nat}{X:FuncId->List A->Option A}{f:FuncId}{l:List A}{r:A}(hf:f∈S)(h:EvQ C f l r):XE C S X f l=some r:=by have hc:f∈S/\∃r,EvQ C f l r:=⟨hf,r,h⟩;unfold XE;rw[dif_pos hc];rw[h.one (kg hc.2)]
theorem gN{C:Ctx}{S:List Nat}{X:FuncId->List A->Option A}{f:FuncId}{l:List A}(hf:f∉S):XE C S X f l=X f l:=by unfold XE;simp_all
theorem rD{C:Ctx}{S:List Nat}{X:FuncId->List A->Option A}(hC:jF Tryz.prog C)(hT:C.T=Cx.T)(hX:QOk Cx.T Tryz.prog X):QOk Cx.T Tryz.prog (XE C S X):=by intro f l r h;unfold XE at h;split at h;{rename_i hc;obtain⟨N,hN⟩:=kg hc.2;have:=(dP hC N).1 f l _ hN;simp_all};{exact hX f l r h}
noncomputable def CA(X:FuncId->List A->Option A):Ctx:=⟨Cx.T,Cx.B,X,fun _=>none⟩
theorem sD{X:FuncId->List A->Option A}(h:QOk Cx.T Tryz.prog X):jF Tryz.prog (CA X):=⟨rZ.mixed,rZ.types,rZ.loops,rZ.fns,h,fun _ _ _ _ _ _ h=>by cases h⟩
theorem mU{X:FuncId->List A->Option A}:(CA X).T=Cx.T:=rfl
