/- tags.agrees with the property of cache.Try. -/
import Derived.Test.YtpdphobnchajbaaGreatDoorP43
set_option linter.unusedSimpArgs false
set_option linter.unusedVariables false
namespace Go.Proofs.YtpdphobnchajbaaGreatDoor.Ev
open Go Go.RowKit
set_option maxRecDepth 100000
set_option maxHeartbeats 16000000
theorem agreesO_run{C:Ctx}{zs:List A}{H:Heap}{G:A→Heap→Prop}(hz:zs.length≤9)
  (h:RunK C [.code mAga] ⟨argE 0 zs,H⟩ fun ex s1=>ex=.go∧(∃ b,look s1.env 4=some (.ptr b 0))∧look s1.env 5=none∧RunK C [.code mAgb] s1 fun ex2 s2=>ex2=.go∧∃ x,result C.T s2 [.cell 4 4]=some x∧G x s2.H) :
  ∃ N x K,agreesO C N zs H=some (x,K)∧G x K:=by
 obtain⟨N1,e1,s1,h1,h2⟩:=runK_code.1 h
 cases e1 with
 |go =>
  obtain⟨-,⟨b,hb⟩,h5,h3⟩:=runK_nil.1 h2
  obtain⟨N2,e2,s2,h4,h6⟩:=runK_code.1 h3
  cases e2 with
  |go =>
   obtain⟨-,x,hx,hG⟩:=runK_nil.1 h6
   refine⟨max N1 N2,x,s2.H,?_,hG⟩
   have h1':=runAt_le C (Nat.le_max_left N1 N2) h1
   have h4':=runAt_le C (Nat.le_max_right N1 N2) h4
   unfold runAt at h1' h4'
   unfold agreesO
   rw[h1']
   simp only[hb,h5]
   rw[h4']
   simp only[hx]
   rw[show Nat.ble zs.length 9=true from Nat.ble_eq_true_of_le hz]
   rfl
  |out id =>
   obtain⟨_,_,_,hu,hq,-⟩:=h6
   rw[unwI]at hu
   cases hu
   cases hq
  |back =>
   obtain⟨_,_,_,hu,hq,-⟩:=h6
   rw[unwI]at hu
   cases hu
   cases hq
 |out id =>
  obtain⟨_,_,_,hu,hq,-⟩:=h2
  rw[unwI]at hu
  cases hu
  cases hq
 |back =>
  obtain⟨_,_,_,hu,hq,-⟩:=h2
  rw[unwI]at hu
  cases hu
  cases hq
theorem CyT:Cy.T=Cx.T:=rfl
theorem cy_rule{t:Tl}(ht:t.Ok){H:Heap}{tb:Nat}(hH:H[tb]?=some (some ⟨42,cT9 t,true⟩)){st ev:Int}(hs:0≤st∧st<256)(he:0≤ev∧ev<256) :
  CallK Cy 180 [.ptr tb 0,I8 st,I8 ev] H fun y' K=>∃ z e l,y'=.tup [.agg (cE z),I64 e]∧K=H++l:=by
 obtain⟨i,rfl⟩:∃ i:Nat,st=i:=⟨st.toNat,by omega⟩
 obtain⟨j,rfl⟩:∃ j:Nat,ev=j:=⟨ev.toNat,by omega⟩
 rw[callK_in CyB180 CyP180]
 refine⟨by simp[fn180],?_⟩
 by_cases q1:12≤(i:Int)
 ·simp(disch:=omega)only[go_sem,simprocAttr,CyT,endK_back]
  exact⟨⟨0,0,0⟩,_,_,rfl,rfl⟩
 by_cases q2:14≤(j:Int)
 ·simp(disch:=omega)only[go_sem,simprocAttr,CyT,endK_back]
  exact⟨⟨0,0,0⟩,_,_,rfl,rfl⟩
 obtain⟨z,r,hz,zo⟩:=cell_c2 ht (i:=i) (j:=j) (by omega) (by omega)
 have hlen:=cT_size ht
 have hl:=fun l=>low_app hH l
 simp(disch:=omega)only[go_sem,simprocAttr,CyT,hl,hz]
 repeat' (((first|refine runK_bif (fun hb=>?_) (fun hb=>?_)|refine wantK_bif (fun hb=>?_) (fun hb=>?_))<;>(first|subst hb|(have hc:=hb;simp only[beq_iff_eq,beq_eq_false_iff_ne,ne_eq]at hc)|skip))<;>(first|simp(disch:=omega)only[go_sem,simprocAttr,hb,CyT,endK_back]|simp(disch:=omega)only[go_sem,simprocAttr,CyT,hH,hl,hlen,hz,endK_go,endK_back]))
 all_goals first|exact⟨⟨0,0,0⟩,_,_,rfl,rfl⟩|exact⟨z,_,_,rfl,rfl⟩|done
theorem cy_try{t:Tl}(ht:t.Ok){H:Heap}{tb:Nat}(hH:H[tb]?=some (some ⟨42,cT9 t,true⟩)){x:Ln}(xo:x.Ok) :
  CallK Cy 182 [eL x,.ptr tb 0] H fun y' K=>∃ b l,y'=Bo b∧K=H++l:=by
 rw[callK_in CyB182 CyP182]
 refine⟨by simp[fn182],?_⟩
 have hl:=fun l=>low_app hH l
 simp(disch:=omega)only[go_sem,simprocAttr,CyT]
 refine passK_ex (cy_rule ht (hl _) xo.state (by decide)) ?_
 rintro y' K ⟨z,e,l,rfl,rfl⟩
 simp(disch:=omega)only[go_sem,simprocAttr,CyT,endK_back]
 exact⟨_,_,rfl,rfl⟩
theorem ag_ok:AgOk:=by
 intro t ht H tb hT x xo
 have key:∃ N y K,agreesO Cy N [.clo 182 [] [.ptr tb 0],eL x] H=some (y,K)∧∃ b l,y=Bo b∧K=H++l:=by
  refine agreesO_run (by simp) ?_
  unfold mAga allA
  simp(disch:=omega)only[go_sem,simprocAttr,CyT]
  refine⟨⟨_,rfl⟩,?_⟩
  unfold mAgb allA
  simp(disch:=omega)only[go_sem,simprocAttr,CyT]
  refine passK_ex (cy_try ht (low_app hT _) xo) ?_
  rintro y' K ⟨b,l,rfl,rfl⟩
  simp(disch:=omega)only[go_sem,simprocAttr,CyT]
  exact⟨b,_,rfl,rfl⟩
 obtain⟨N,y,K,h,b,l,rfl,rfl⟩:=key
 refine⟨b,l,1,?_⟩
 have hx:Cx.XO 225=some (agreesW Cy):=rfl
 simp only[callQ.callO,hx]
 exact agreesW_of h
end Go.Proofs.YtpdphobnchajbaaGreatDoor.Ev
