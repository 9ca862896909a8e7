/- Walks that split at every test; results told by what holds of them. -/
import Derived.Test.YtfkegfjggibdhaaGreatDoorV09
set_option linter.all false
namespace Go.Proofs.YtfkegfjggibdhaaGreatDoor.Ev
open Go Go.RowKit
set_option maxRecDepth 100000
def VK(T:Tb)(md:EH)(res:List ResultVar)(G:A->Prop)(ex:Ex)(st:St):Prop:=match ex with|.out _=>False|_=>∃r,(dB T st res).bind (qL md st.H)=some r/\G r
section
variable{C:Ctx}{k:List It}{st:St}{Q:Ex->St->Prop}{dst:Option Nat}{n:Nat}{ms:List MOp}
theorem aGN{T:Tb}{md:EH}{res:List ResultVar}{G:A->Prop}:VK T md res G .go st↔∃r,(dB T st res).bind (qL md st.H)=some r/\G r:=gz
theorem V9{T:Tb}{md:EH}{res:List ResultVar}{G:A->Prop}:VK T md res G .back st↔∃r,(dB T st res).bind (qL md st.H)=some r/\G r:=gz
theorem cF{f:FuncId}{m:MFn}{zs:List A}{G:A->Prop}(hB:C.B f=some m)(hX:C.X f zs=none)(hl:zs.length<=m.nt)(h:aW C [.code m.body] ⟨jM 0 zs,[]⟩ (VK C.T m.mode m.res G)):∃r,EvQ C f zs r/\G r:=by obtain⟨N,ex,st',h1,hq⟩:=h;cases ex with|out id=>exact hq.elim|go=>obtain⟨r,h2,h3⟩:=hq;exact⟨r,jX hB hX hl ⟨N,.go,st',h1,h2⟩,h3⟩|back=>obtain⟨r,h2,h3⟩:=hq;exact⟨r,jX hB hX hl ⟨N,.back,st',h1,h2⟩,h3⟩
theorem c9{t:Bool}{a b:M}(h1:t=true->aW C (.code a::k) st Q)(h2:t=false->aW C (.code b::k) st Q):aW C (.code (bif t then a else b)::k) st Q:=by grind
theorem eP{t:Bool}{m:MOp}(h1:t=true->mX C (some true) n m ms st k Q)(h2:t=false->mX C (some false) n m ms st k Q):mX C (some t) n m ms st k Q:=by cases t;{simp_all};simp_all
theorem aM{f:FuncId}{zs:List A}{G:A->aF->Prop}{e:Env}{H:aF}(h:bM C f zs H G)(hk:∀x H',G x H'->gL C 0 ms ⟨put e dst x,H'⟩ k Q):l7 C f zs dst ms ⟨e,H⟩ k Q:=by obtain⟨x,H',h1,h2⟩:=h;exact⟨x,H',h1,hk x H' h2⟩
end
theorem HP{C:Ctx}{f:FuncId}{zs:List A}{dst:Option Nat}{ms:List MOp}{e:Env}{H:aF}{k:List It}{Q:Ex->Ev.St->Prop}{x:A}{H':aF}(h:EvO C f zs H x H')(hk:gL C 0 ms ⟨put e dst x,H'⟩ k Q):l7 C f zs dst ms ⟨e,H⟩ k Q:=⟨x,H',h,hk⟩
section
variable{α:Type}
theorem eR(H:List α)(x:α)(l:List α):(H++x::l)[H.length]?=some x:=by simp
theorem uG(H:List α)(x y:α)(l:List α):(H++x::l).set H.length y=H++y::l:=by simp
theorem aR(H l:List α)(k:Nat):(H++l)[H.length+k]?=l[k]?:=by grind
theorem LA(H l:List α)(k:Nat)(y:α):(H++l).set (H.length+k) y=H++l.set k y:=by simp
end
section
variable{α:Type}
theorem eH{H:List α}{i:Nat}(h:i<H.length)(l:List α)(x:α):(H++l).set i x=H.set i x++l:=ib _ _ h
theorem EC(H:List α)(i:Nat)(z x:α)(l:List α):(H.set i z++x::l)[H.length]?=some x:=by simp
theorem eA(H l:List α)(i:Nat)(z:α)(k:Nat):(H.set i z++l)[H.length+k]?=l[k]?:=by grind
theorem aF2(H:List α)(i:Nat)(z x y:α)(l:List α):(H.set i z++x::l).set H.length y=H.set i z++y::l:=by simp
theorem aEH(H l:List α)(i:Nat)(z:α)(k:Nat)(y:α):(H.set i z++l).set (H.length+k) y=H.set i z++l.set k y:=by simp
end
theorem aC{H:aF}{i:Nat}{a:Option Blk}(h:H[i]?=some a)(l:aF):(H++l)[i]?=some a:=by grind
theorem aJ{H:aF}{i j:Nat}{a:Option Blk}(h:H[i]?=some a)(hne:j≠i)(x:Option Blk):(H.set j x)[i]?=some a:=by simp_all
attribute [go_sem] aGN V9 exists_eq_left' eR uG aR LA eH EC eA aF2 aEH am bj List.append_assoc
set_option maxHeartbeats 16000000
open Classical in noncomputable def XE(C:Ctx)(S:List Nat)(X:FuncId->List A->Option A)(f:FuncId)(l:List A):Option A:=if h:f∈S/\∃r,EvQ C f l r then some (Classical.choose h.2)else X f l
theorem nA{C:Ctx}{S:List Nat}{X:FuncId->List A->Option A}{f:FuncId}{l:List A}{r:A}(hf:f∈S)(h:EvQ C f l r):XE C S X f l=some r:=by have hc:f∈S/\∃r,EvQ C f l r:=⟨hf,r,h⟩;unfold XE;rw[dif_pos hc];rw[h.one (kn hc.2)]
theorem gS{C:Ctx}{S:List Nat}{X:FuncId->List A->Option A}{f:FuncId}{l:List A}(hf:f∉S):XE C S X f l=X f l:=by unfold XE;simp_all
theorem qW{C:Ctx}{S:List Nat}{X:FuncId->List A->Option A}(hC:jI Tryz.prog C)(hT:C.T=Cx.T)(hX:QOk Cx.T Tryz.prog X):QOk Cx.T Tryz.prog (XE C S X):=by intro f l r h;unfold XE at h;split at h;{rename_i hc;obtain⟨N,hN⟩:=kn hc.2;have:=(dO hC N).1 f l _ hN;simp_all};{exact hX f l r h}
noncomputable def CA(X:FuncId->List A->Option A):Ctx:=⟨Cx.T,Cx.B,X,fun _=>none⟩
theorem sS{X:FuncId->List A->Option A}(h:QOk Cx.T Tryz.prog X):jI Tryz.prog (CA X):=⟨sJ.mixed,sJ.types,sJ.loops,sJ.fns,h,fun _ _ _ _ _ _ h=>by cases h⟩
theorem kT{X:FuncId->List A->Option A}:(CA X).T=Cx.T:=rfl
