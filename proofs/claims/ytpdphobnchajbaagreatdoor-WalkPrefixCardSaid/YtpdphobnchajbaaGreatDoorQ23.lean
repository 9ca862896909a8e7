/- Tags: storing, using. -/
import Derived.Test.YtpdphobnchajbaaGreatDoorQ14
import Derived.Test.YtpdphobnchajbaaGreatDoorQ16
set_option linter.unusedSimpArgs false
set_option linter.unusedVariables false
namespace Go.Proofs.YtpdphobnchajbaaGreatDoor.Ev
open Go Go.RowKit
set_option maxRecDepth 100000
section
variable{c h o s y:Int}
set_option maxHeartbeats 8000000
theorem aP1(hk:OkG c h o s y){k:Ca}(ko:k.Ok){l:Int}(l0:0≤l)(l1:l≤255) :
  EvQ Cx 300 [fR c h o s y,eC k,I8 l] (match k.find s y l with|some w=>eC (k.setN (l % s).toNat (vY (k.N (l % s).toNat) w))|none=>eC k):=by
 have hF:=xZ hk k l0 l1
 have hk':=hk
 obtain⟨c1,c2,h1,h2,o1,o2,s1,s2,y1,y2⟩:=id hk
 have d1:=Int.emod_nonneg l (show s≠0 by omega)
 have d2:=Int.emod_lt_of_pos l (show 0<s by omega)
 unfold Ca.find at *
 obtain⟨q,hq⟩:∃ q:Nat,l % s=q:=⟨(l % s).toNat,by omega⟩
 rw[hq]at hF ⊢
 rw[Int.toNat_natCast]at hF ⊢
 have hta:∀ k,List.take 160 (cC k)=cC k:=fun k=>List.take_of_length_le (by rw[aY];omega)
 refine aX a3x rfl (by simp[MR]) ?_
 cases hr:hZ (uZ l) (k.W q) 0 y.toNat with
 |none =>
  rw[hr]at hF
  simp only[Option.getD_none,Option.isSome_none]at hF
  simp(disch:=omega)only[hta,List.flatten_cons,List.flatten_nil,go_sem,simprocAttr,QK.use hF]
 |some w =>
  rw[hr]at hF
  simp only[Option.getD_some,Option.isSome_some]at hF
  obtain⟨-,hw,-⟩:=mG _ _ _ _ _ hr
  have hq4:q<4:=by omega
  have hw4:w<4:=by omega
  have hT:=aBx (ko.N q hq4) (w:Int)
  have hd:=EU k hq4
  have hs:=TG k hq4 (vY (k.N q) w)
  simp only[cR]at hs hd
  simp(disch:=omega)only[hta,List.flatten_cons,List.flatten_nil,hd,Nat.zero_add,go_sem,simprocAttr,QK.use hF,QK.use hT,hs]
  first|done|rfl|done
noncomputable def Ca.put(k:Ca)(o s y:Int)(x:Ln):Ca×Int :=
 if x.state=0∨12≤x.state∨5/o+1≤x.line then(k,2)
 else match k.find s y x.line with
  |some w=>(k.setW (x.line % s).toNat w x,0)
  |none=>match k.free s y x.line with
   |none=>(k,4)
   |some w=>((k.setW (x.line % s).toNat w x).setN (x.line % s).toNat (B2 (k.N (x.line % s).toNat) w),0)
theorem aSF(hk:OkG c h o s y){k:Ca}(ko:k.Ok){x:Ln}(xo:x.Ok) :
  EvQ Cx 299 [fR c h o s y,eC k,eL x] (.tup [eC (k.put o s y x).1,I64 (k.put o s y x).2]):=by
 obtain⟨l0,l1⟩:=xo.line
 have hR:=gQ hk
 have hN:=u7 hk
 have hV:=xQ x
 have hF:=xZ hk k (l:=x.line) l0 (by omega)
 have hE:=JO hk k (l:=x.line) l0 (by omega)
 have hk':=hk
 obtain⟨c1,c2,h1,h2,o1,o2,s1,s2,y1,y2⟩:=id hk
 have d1:=Int.emod_nonneg x.line (show s≠0 by omega)
 have d2:=Int.emod_lt_of_pos x.line (show 0<s by omega)
 have d3:0≤5/o:=Int.ediv_nonneg (by omega) (by omega)
 have d4:5/o≤5:=Int.ediv_le_self _ (by omega)
 have hta:∀ k,List.take 160 (cC k)=cC k:=fun k=>List.take_of_length_le (by rw[aY];omega)
 unfold Ca.put
 generalize 5/o=n at *
 refine aX aWm rfl (by simp[KU]) ?_
 by_cases e1:x.state=0
 ·rw[if_pos (.inl e1)]
  rw[decide_eq_true e1]at hV
  simp(disch:=omega)only[hta,List.flatten_cons,List.flatten_nil,go_sem,simprocAttr,QK.use hR,QK.use hV]
 rw[decide_eq_false e1]at hV
 by_cases e2:12≤x.state
 ·rw[if_pos (.inr (.inl e2))]
  simp(disch:=omega)only[hta,List.flatten_cons,List.flatten_nil,go_sem,simprocAttr,QK.use hR,QK.use hV]
 by_cases e3:n+1≤x.line
 ·rw[if_pos (.inr (.inr e3))]
  simp(disch:=omega)only[hta,List.flatten_cons,List.flatten_nil,go_sem,simprocAttr,QK.use hR,QK.use hV,QK.use hN]
 rw[if_neg (by omega)]
 unfold Ca.find Ca.free at *
 obtain⟨q,hq⟩:∃ q:Nat,x.line % s=q:=⟨(x.line % s).toNat,by omega⟩
 rw[hq]at hF hE ⊢
 rw[Int.toNat_natCast]at hF hE ⊢
 have hq4:q<4:=by omega
 cases hr:hZ (uZ x.line) (k.W q) 0 y.toNat with
 |some w =>
  rw[hr]at hF
  simp only[Option.getD_some,Option.isSome_some]at hF
  obtain⟨-,hw,-⟩:=mG _ _ _ _ _ hr
  have hw4:w<4:=by omega
  have hs:=DS k hq4 hw4 x
  simp only[cL]at hs
  simp(disch:=omega)only[hta,List.flatten_cons,List.flatten_nil,Nat.zero_add,go_sem,simprocAttr,QK.use hR,QK.use hV,QK.use hN,QK.use hF,hs]
  first|done|rfl|done
 |none =>
  rw[hr]at hF
  simp only[Option.getD_none,Option.isSome_none]at hF
  cases hf:hZ wV (k.W q) 0 y.toNat with
  |none =>
   rw[hf]at hE
   simp only[Option.getD_none,Option.isSome_none]at hE
   simp(disch:=omega)only[hta,List.flatten_cons,List.flatten_nil,go_sem,simprocAttr,QK.use hR,QK.use hV,QK.use hN,QK.use hF,QK.use hE]
  |some w =>
   rw[hf]at hE
   simp only[Option.getD_some,Option.isSome_some]at hE
   obtain⟨-,hw,-⟩:=mG _ _ _ _ _ hf
   have hw4:w<4:=by omega
   have hs:=DS k hq4 hw4 x
   have hT:=aNE (ko.N q hq4) (w:Int)
   have hd:=EU (k.setW q w x) hq4
   have hs2:=TG (k.setW q w x) hq4 (B2 (k.N q) w)
   rw[Ca.setW_N]at hd
   simp only[cL,cR]at hs hd hs2
   simp(disch:=omega)only[hta,List.flatten_cons,List.flatten_nil,hd,Nat.zero_add,go_sem,simprocAttr,QK.use hR,QK.use hV,QK.use hN,QK.use hF,QK.use hE,QK.use hT,hs,hs2]
   first|done|rfl|done
theorem Ca.Ok.put(hk:OkG c h o s y){k:Ca}(ko:k.Ok){x:Ln}(xo:x.Ok):(k.put o s y x).1.Ok:=by
 obtain⟨c1,c2,h1,h2,o1,o2,s1,s2,y1,y2⟩:=id hk
 have d2:=Int.emod_lt_of_pos x.line (show 0<s by omega)
 unfold Ca.put
 split
 ·exact ko
 ·split
  ·exact ko.setW xo
  ·split
   ·exact ko
   ·rename_i w _
    refine(ko.setW xo).setN ?_
    exact aDl (ko.N _ (by omega)) _
end
end Go.Proofs.YtpdphobnchajbaaGreatDoor.Ev
