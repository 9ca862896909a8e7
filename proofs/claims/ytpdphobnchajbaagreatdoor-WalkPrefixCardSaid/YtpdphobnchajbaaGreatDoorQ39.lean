/- tags.agrees with the property of cache.Try. -/
import Derived.Test.YtpdphobnchajbaaGreatDoorQ38
set_option linter.unusedSimpArgs false
set_option linter.unusedVariables false
namespace Go.Proofs.YtpdphobnchajbaaGreatDoor.Ev
open Go Go.RowKit
set_option maxRecDepth 100000
set_option maxHeartbeats 16000000
theorem JX{C:Ctx}{zs:List A}{H:aG}{G:A→aG→Prop}(hz:zs.length≤9)
  (h:bG C [.code aDg] ⟨iR 0 zs,H⟩ fun ex s1=>ex=.go∧(∃ b,cI s1.env 4=some (.ptr b 0))∧cI s1.env 5=none∧bG C [.code aAy] s1 fun ex2 s2=>ex2=.go∧∃ x,dF C.T s2 [.cell 4 4]=some x∧G x s2.H) :
  ∃ N x K,iY C N zs H=some (x,K)∧G x K:=by
 obtain⟨N1,e1,s1,h1,h2⟩:=bK.1 h
 cases e1 with
 |go =>
  obtain⟨-,⟨b,hb⟩,h5,h3⟩:=gD.1 h2
  obtain⟨N2,e2,s2,h4,h6⟩:=bK.1 h3
  cases e2 with
  |go =>
   obtain⟨-,x,hx,hG⟩:=gD.1 h6
   refine⟨max N1 N2,x,s2.H,?_,hG⟩
   have h1':=fF C (Nat.le_max_left N1 N2) h1
   have h4':=fF C (Nat.le_max_right N1 N2) h4
   unfold eR at h1' h4'
   unfold iY
   rw[h1']
   simp only[hb,h5]
   rw[h4']
   simp only[hx]
   rw[show Nat.ble zs.length 9=true from Nat.ble_eq_true_of_le hz]
   rfl
  |out id =>
   obtain⟨_,_,_,hu,hq,-⟩:=h6
   rw[iN]at hu
   cases hu
   cases hq
  |back =>
   obtain⟨_,_,_,hu,hq,-⟩:=h6
   rw[iN]at hu
   cases hu
   cases hq
 |out id =>
  obtain⟨_,_,_,hu,hq,-⟩:=h2
  rw[iN]at hu
  cases hu
  cases hq
 |back =>
  obtain⟨_,_,_,hu,hq,-⟩:=h2
  rw[iN]at hu
  cases hu
  cases hq
theorem CyT:Cy.T=Cx.T:=rfl
theorem aGU{t:Tl}(ht:t.Ok){H:aG}{tb:Nat}(hH:H[tb]?=some (some ⟨42,cT9 t,true⟩)){st ev:Int}(hs:0≤st∧st<256)(he:0≤ev∧ev<256) :
  bW Cy 180 [.ptr tb 0,I8 st,I8 ev] H fun y' K=>∃ z e l,y'=.tup [.agg (cE z),I64 e]∧K=H++l:=by
 obtain⟨i,rfl⟩:∃ i:Nat,st=i:=⟨st.toNat,by omega⟩
 obtain⟨j,rfl⟩:∃ j:Nat,ev=j:=⟨ev.toNat,by omega⟩
 rw[aP aO6 a0m]
 refine⟨by simp[zN],?_⟩
 by_cases q1:12≤(i:Int)
 ·simp(disch:=omega)only[go_sem,simprocAttr,CyT,aE]
  exact⟨⟨0,0,0⟩,_,_,rfl,rfl⟩
 by_cases q2:14≤(j:Int)
 ·simp(disch:=omega)only[go_sem,simprocAttr,CyT,aE]
  exact⟨⟨0,0,0⟩,_,_,rfl,rfl⟩
 obtain⟨z,r,hz,zo⟩:=UE ht (i:=i) (j:=j) (by omega) (by omega)
 have hlen:=d7 ht
 have hl:=fun l=>aI hH l
 simp(disch:=omega)only[go_sem,simprocAttr,CyT,hl,hz]
 repeat' (((first|refine bD (fun hb=>?_) (fun hb=>?_)|refine bY (fun hb=>?_) (fun hb=>?_))<;>(first|subst hb|(have hc:=hb;simp only[beq_iff_eq,beq_eq_false_iff_ne,ne_eq]at hc)|skip))<;>(first|simp(disch:=omega)only[go_sem,simprocAttr,hb,CyT,aE]|simp(disch:=omega)only[go_sem,simprocAttr,CyT,hH,hl,hlen,hz,aW,aE]))
 all_goals first|exact⟨⟨0,0,0⟩,_,_,rfl,rfl⟩|exact⟨z,_,_,rfl,rfl⟩|done
theorem aZO{t:Tl}(ht:t.Ok){H:aG}{tb:Nat}(hH:H[tb]?=some (some ⟨42,cT9 t,true⟩)){x:Ln}(xo:x.Ok) :
  bW Cy 182 [eL x,.ptr tb 0] H fun y' K=>∃ b l,y'=Bo b∧K=H++l:=by
 rw[aP aYg aOV]
 refine⟨by simp[GO],?_⟩
 have hl:=fun l=>aI hH l
 simp(disch:=omega)only[go_sem,simprocAttr,CyT]
 refine aM (aGU ht (hl _) xo.state (by decide)) ?_
 rintro y' K ⟨z,e,l,rfl,rfl⟩
 simp(disch:=omega)only[go_sem,simprocAttr,CyT,aE]
 exact⟨_,_,rfl,rfl⟩
theorem a4b:aIr:=by
 intro t ht H tb hT x xo
 have key:∃ N y K,iY Cy N [.clo 182 [] [.ptr tb 0],eL x] H=some (y,K)∧∃ b l,y=Bo b∧K=H++l:=by
  refine JX (by simp) ?_
  unfold aDg ZM
  simp(disch:=omega)only[go_sem,simprocAttr,CyT]
  refine⟨⟨_,rfl⟩,?_⟩
  unfold aAy ZM
  simp(disch:=omega)only[go_sem,simprocAttr,CyT]
  refine aM (aZO ht (aI hT _) xo) ?_
  rintro y' K ⟨b,l,rfl,rfl⟩
  simp(disch:=omega)only[go_sem,simprocAttr,CyT]
  exact⟨b,_,rfl,rfl⟩
 obtain⟨N,y,K,h,b,l,rfl,rfl⟩:=key
 refine⟨b,l,1,?_⟩
 have hx:Cx.XO 225=some (qR Cy):=rfl
 simp only[bA.callO,hx]
 exact PB h
end Go.Proofs.YtpdphobnchajbaaGreatDoor.Ev
