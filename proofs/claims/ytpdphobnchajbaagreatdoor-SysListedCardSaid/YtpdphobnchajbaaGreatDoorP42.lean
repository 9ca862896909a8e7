/- tags: Victim. -/
import Derived.Test.YtpdphobnchajbaaGreatDoorP41
set_option linter.unusedSimpArgs false
set_option linter.unusedVariables false
namespace Go.Proofs.YtpdphobnchajbaaGreatDoor.Ev
open Go Go.RowKit
set_option maxRecDepth 100000
set_option maxHeartbeats 16000000
def AgOk:Prop:=∀{t:Tl} (_:t.Ok) {H:Heap} {tb:Nat} (_:H[tb]?=some (some ⟨42,cT9 t,true⟩)) {x:Ln} (_:x.Ok),∃ b l,EvO Cx 225 [.clo 182 [] [.ptr tb 0],eL x] H (Bo b) (H++l)
section
variable{c h o s y:Int}
theorem vict_loop(ag:AgOk){t:Tl}(ht:t.Ok){H:Heap}{tb:Nat}(hT:H[tb]?=some (some ⟨42,cT9 t,true⟩)){K:Ca}(ko:K.Ok){n:Nat}(hy:y=n)(hn:n≤4){q:Nat}(hq:q<4){RES:Option Blk}{KK:List It}{Q:Ex→Ev.St→Prop} :
  ∀(d w ws:Nat) (T:Heap),w+d=n→ws<16→(∀ ws T,ws<16→UnwK Cx (.out 0) KK ⟨[(10,Bo false),(0,.yl (H.length+9)),(2,.ptr (H.length+7) 0),(3,.ptr (H.length+8) 0),(8,I64 y),(9,I64 y)],H++some ⟨31,[I64 c,I64 h,I64 o,I64 s,I64 y],true⟩::some ⟨123,cC K,true⟩::some ⟨296,[.clo 182 [] [.ptr tb 0]],true⟩::RES::some ⟨342,[I64 c,I64 h,I64 o,I64 s,I64 y],true⟩::some ⟨48,[W64 (ws:Nat)],true⟩::some ⟨342,[I64 c,I64 h,I64 o,I64 s,I64 y],true⟩::some ⟨344,[.ptr (H.length+1) 0],true⟩::some ⟨3,[I64 q],true⟩::some ⟨0,[.lrec 65 [33,34] [7,12] m183_l0 m183_l1,I64 0,I64 0,.ptr (H.length+2) 0,.ptr (H.length+5) 0],true⟩:: T⟩ Q) →
   RunK Cx (.code (.loop m285_l0)::KK) ⟨[(0,.yl (H.length+9)),(2,.ptr (H.length+7) 0),(3,.ptr (H.length+8) 0),(8,I64 y),(9,I64 w)],H++some ⟨31,[I64 c,I64 h,I64 o,I64 s,I64 y],true⟩::some ⟨123,cC K,true⟩::some ⟨296,[.clo 182 [] [.ptr tb 0]],true⟩::RES::some ⟨342,[I64 c,I64 h,I64 o,I64 s,I64 y],true⟩::some ⟨48,[W64 (ws:Nat)],true⟩::some ⟨342,[I64 c,I64 h,I64 o,I64 s,I64 y],true⟩::some ⟨344,[.ptr (H.length+1) 0],true⟩::some ⟨3,[I64 q],true⟩::some ⟨0,[.lrec 65 [33,34] [7,12] m183_l0 m183_l1,I64 0,I64 0,.ptr (H.length+2) 0,.ptr (H.length+5) 0],true⟩:: T⟩ Q:=by
 intro d
 induction d with
 |zero =>
  intro w ws T hw hs hE
  obtain rfl:w=n:=by omega
  subst hy
  rw[runK_loop]
  simp(disch:=omega)only[Int.lt_irrefl,go_sem,simprocAttr]
  exact hE ws T hs
 |succ d ih =>
  intro w ws T hw hs hE
  subst hy
  have hw4:w<4:=by omega
  have hwn:w<n:=by omega
  have hd:=cC_way K hq hw4
  have hd':=cC_way' K hq hw4
  have nx:∀ ws T,ws<16→RunK Cx (.code (.loop m285_l0)::KK) ⟨[(0,.yl (H.length+9)),(2,.ptr (H.length+7) 0),(3,.ptr (H.length+8) 0),(8,I64 (n:Int)),(9,I64 ((w:Int)+1))],H++some ⟨31,[I64 c,I64 h,I64 o,I64 s,I64 (n:Int)],true⟩::some ⟨123,cC K,true⟩::some ⟨296,[.clo 182 [] [.ptr tb 0]],true⟩::RES::some ⟨342,[I64 c,I64 h,I64 o,I64 s,I64 (n:Int)],true⟩::some ⟨48,[W64 (ws:Nat)],true⟩::some ⟨342,[I64 c,I64 h,I64 o,I64 s,I64 (n:Int)],true⟩::some ⟨344,[.ptr (H.length+1) 0],true⟩::some ⟨3,[I64 q],true⟩::some ⟨0,[.lrec 65 [33,34] [7,12] m183_l0 m183_l1,I64 0,I64 0,.ptr (H.length+2) 0,.ptr (H.length+5) 0],true⟩:: T⟩ Q:=fun ws T hs=>by
   have:=ih (w+1) ws T (by omega) hs hE
   simpa only[Int.natCast_add,Int.natCast_one]using this
  rw[runK_loop]
  have hf:=free_ev (K.W q w)
  by_cases hz:(K.W q w).state=0
  ·rw[decide_eq_true hz]at hf
   simp(disch:=omega)only[go_sem,simprocAttr,anyK_yl,ylK_in,roundK_some,asgR_go,asgR_some,rndR_go,rndR_some,RecA.blk,zipE,recOf,hd,QK.use hf]
   rw[loop_norm (l:=[0,2,3,8,9]) rfl]
   simp(disch:=omega)only[go_sem,simprocAttr]
   exact nx _ _ hs
  ·rw[decide_eq_false hz]at hf
   simp(disch:=omega)only[go_sem,simprocAttr,anyK_yl,ylK_in,roundK_some,asgR_go,asgR_some,RecA.blk,zipE,recOf,hd,QK.use hf]
   obtain⟨b,L,hag⟩:=ag ht (low_app hT _) (ko.W q w hq hw4)
   refine(passK_evO hag).2 ?_
   cases b with
   |false =>
    simp(disch:=omega)only[go_sem,simprocAttr,rndR_go,rndR_some,RecA.blk,recOf,List.append_assoc,List.cons_append]
    rw[loop_norm (l:=[0,2,3,8,9]) rfl]
    simp(disch:=omega)only[go_sem,simprocAttr]
    exact nx _ _ hs
   |true =>
    have hshl:=bit_shl w hw4
    have hor:=bit_or ws hs w hw4
    simp(disch:=omega)only[go_sem,simprocAttr]at hshl hor
    simp(disch:=omega)only[go_sem,simprocAttr,rndR_go,rndR_some,RecA.blk,recOf,hshl,hor,List.append_assoc,List.cons_append]
    rw[loop_norm (l:=[0,2,3,8,9]) rfl]
    simp(disch:=omega)only[go_sem,simprocAttr]
    exact nx _ _ (or_lt ws hs w hw4)
theorem victim_ex(ag:AgOk)(hk:OkG c h o s y){t:Tl}(ht:t.Ok){H:Heap}{tb:Nat}(hT:H[tb]?=some (some ⟨42,cT9 t,true⟩)){k:Ca}(ko:k.Ok){l:Int}(l0:0≤l)(l1:l≤255) :
  CallK Cx 183 [encG c h o s y,eC k,I8 l,.clo 182 [] [.ptr tb 0]] H fun y' K=>∃ x ok L,y'=.tup [eL x,Bo ok]∧x.Ok∧K=H++L:=by
 have hR:=gright_yes hk
 have hS:=fset hk l0 l1
 have hta:∀ k,List.take 160 (cC k)=cC k:=fun k=>List.take_of_length_le (by rw[cC_len];omega)
 have hdr:∀ k,List.drop 160 (cC k)=[]:=fun k=>List.drop_eq_nil_of_le (by rw[cC_len];omega)
 obtain⟨c1,c2,h1,h2,o1,o2,s1,s2,y1,y2⟩:=id hk
 have d1:=Int.emod_nonneg l (show s≠0 by omega)
 have d2:=Int.emod_lt_of_pos l (show 0<s by omega)
 obtain⟨q,hq⟩:∃ q:Nat,l % s=q:=⟨(l % s).toNat,by omega⟩
 rw[hq]at hS
 have hq4:q<4:=by omega
 obtain⟨n,rfl⟩:∃ n:Nat,y=n:=⟨y.toNat,by omega⟩
 rw[callK_in CxB183 CxP183];refine⟨by simp[fn183],?_⟩
 simp(disch:=omega)only[go_sem,simprocAttr,QK.use hR,QK.use hS,passK_in CxB224 CxP224,runK_rf,rfK_fn,newRecA]
 rw[callK_in CxB285 CxP285]
 simp(disch:=omega)only[go_sem,simprocAttr]
 rw[loop_norm (l:=[0,2,3,8,9]) rfl]
 simp(disch:=omega)only[go_sem,simprocAttr]
 refine vict_loop ag ht hT ko (n:=n) (q:=q) rfl (by omega) hq4 n 0 0 [] (by omega) (by decide) (fun ws T hws=>?_)
 obtain⟨way,ok,hV,hw⟩:=rvictim_ex (ko.N q hq4) (may:=ws) (by omega)
 have hd:=cC_note k hq4
 simp only[cR]at hd hV
 cases ok with
 |false =>
  simp(disch:=omega)only[go_sem,simprocAttr,endK_go,endK_back,exK_go,pendK_some,recOf,pending,exOfN,hd,QK.use hV,List.flatten_cons,List.flatten_nil,endK_go,endK_back]
  exact⟨noLn,_,_,rfl,noLn_ok,rfl⟩
 |true =>
  obtain⟨w0,w4⟩:=hw rfl
  obtain⟨m,rfl⟩:∃ m:Nat,way=m:=⟨way.toNat,by omega⟩
  have hm4:m<4:=by omega
  have hw1:=cC_way k hq4 hm4
  have hw2:=cC_way' k hq4 hm4
  simp(disch:=omega)only[go_sem,simprocAttr,endK_go,endK_back,exK_go,pendK_some,recOf,pending,exOfN,hd,hw1,QK.use hV,List.flatten_cons,List.flatten_nil,endK_go,endK_back]
  exact⟨k.W q m,_,_,rfl,ko.W _ _ hq4 hm4,rfl⟩
end
section
variable{c h o s y:Int}
end
section
variable{c h o s y:Int}
end
end Go.Proofs.YtpdphobnchajbaaGreatDoor.Ev
