/- repl: Victim. -/
import Derived.Test.YtpdphobnchajbaaGreatDoorQ35
set_option linter.unusedSimpArgs false
set_option linter.unusedVariables false
namespace Go.Proofs.YtpdphobnchajbaaGreatDoor.Ev
open Go Go.RowKit
set_option maxRecDepth 100000
set_option maxHeartbeats 16000000
theorem D6:EvQ Cx 265 [] (.mf [I8 1,.agg [.v (.func (.func 311) #[] #[]),.v (.func (.func 311) #[] #[]),.v (.func (.func 312) #[] #[])],I8 2,.agg [.v (.func (.func 311) #[] #[]),.v (.func (.func 313) #[] #[]),.v (.func (.func 312) #[] #[])],I8 3,.agg [.v (.func (.func 314) #[] #[]),.v (.func (.func 314) #[] #[]),.v (.func (.func 315) #[] #[])],I8 4,.agg [.v (.func (.func 311) #[] #[]),.v (.func (.func 311) #[] #[]),.v (.func (.func 316) #[] #[])]]):=bI 60 (by kernel_rfl)
theorem UB(r:Rp)(may:Nat)(H:aG){w:Int}(w0:0≤w) :
  ∃ b,EvO Cx 288 [I64 w,.fp (cR r),.fp [W64 may]] H (Bo b) H:=by
 have:bW Cx 288 [I64 w,.fp (cR r),.fp [W64 may]] H fun y K=>(∃ b,y=Bo b)∧K=H:=by
  rw[aP AS yW];refine⟨by simp[JU],?_⟩
  by_cases q:w<r.ways
  ·simp(disch:=omega)only[go_sem,simprocAttr,aE]
   exact⟨_,rfl⟩
  ·simp(disch:=omega)only[go_sem,simprocAttr,aE]
   exact⟨_,rfl⟩
 obtain⟨y,K,h1,⟨b,rfl⟩,rfl⟩:=this
 exact⟨b,h1⟩
theorem CN{k n a b c d t:Nat}(n4:n≤4)(ha:a<4)(hb:b<4)(hc:c<4)(hd:d<4)(may:Nat)(r:Rp)(hr:r=⟨k,n,a,b,c,d,t⟩) :
  ∃ z,EvQ Cx 312 [.agg (cR r),.clo 288 [] [.fp (cR r),.fp [W64 may]]] z∧∃(way:Int) (ok:Bool),z=.tup [I64 way,Bo ok]∧(ok=true→0≤way∧way<4):=by
 subst hr
 refine cA aRO rfl (by simp[HR]) ?_
 simp(disch:=omega)only[go_sem,simprocAttr]
 repeat' (first|(((first|refine bD (fun hb=>?_) (fun hb=>?_)|refine bY (fun hb=>?_) (fun hb=>?_))<;>(first|subst hb|(have hc:=hb;simp only[decide_eq_true_eq,decide_eq_false_iff_not,bne_iff_ne,bne_eq_false_iff_eq,ne_eq,Int.not_lt]at hc)|skip))<;>(first|simp(disch:=omega)only[go_sem,simprocAttr,hb,aK AS yW]|simp(disch:=omega)only[go_sem,simprocAttr,aK AS yW]))|(rw[aA];simp(disch:=omega)only[go_sem,simprocAttr]))
 all_goals exact⟨_,_,rfl,fun _=>⟨by omega,by omega⟩⟩
theorem aCh{k n a b c d t:Nat}(n1:1≤n)(n4:n≤4)(ha:a<4)(hb:b<4)(hc:c<4)(hd:d<4)(may:Nat)(r:Rp)(hr:r=⟨k,n,a,b,c,d,t⟩) :
  ∃ z,EvQ Cx 316 [.agg (cR r),.clo 288 [] [.fp (cR r),.fp [W64 may]]] z∧∃(way:Int) (ok:Bool),z=.tup [I64 way,Bo ok]∧(ok=true→0≤way∧way<4):=by
 subst hr
 refine cA aPy rfl (by simp[HQ]) ?_
 obtain rfl|rfl|rfl|rfl:n=1∨n=2∨n=3∨n=4:=by omega
 all_goals simp(disch:=omega)only[go_sem,simprocAttr]
 repeat' (first|(((first|refine bD (fun hb=>?_) (fun hb=>?_)|refine bY (fun hb=>?_) (fun hb=>?_))<;>(first|subst hb|(have hc:=hb;simp only[decide_eq_true_eq,decide_eq_false_iff_not,bne_iff_ne,bne_eq_false_iff_eq,ne_eq,Int.not_lt]at hc)|skip))<;>(first|simp(disch:=omega)only[go_sem,simprocAttr,hb]|simp(disch:=omega)only[go_sem,simprocAttr,aK AS yW]))|(rw[aA];simp(disch:=omega)only[go_sem,simprocAttr,aK AS yW]))
 all_goals exact⟨_,_,rfl,fun _=>⟨by omega,by omega⟩⟩
theorem a8i:Int.fdiv 0 (2 ^ min 1 8)=0:=by decide
theorem a9S:Int.fdiv 0 (2 ^ min 2 8)=0:=by decide
theorem bAX:Int.fdiv 1 (2 ^ min 1 8)=0:=by decide
theorem a5u:Int.fdiv 1 (2 ^ min 2 8)=0:=by decide
theorem a6t:Int.fdiv 2 (2 ^ min 1 8)=1:=by decide
theorem a3I:Int.fdiv 2 (2 ^ min 2 8)=0:=by decide
theorem a4M:Int.fdiv 3 (2 ^ min 1 8)=1:=by decide
theorem a5s:Int.fdiv 3 (2 ^ min 2 8)=0:=by decide
theorem bAu:Int.fdiv 4 (2 ^ min 1 8)=2:=by decide
theorem a6x:Int.fdiv 4 (2 ^ min 2 8)=1:=by decide
theorem a4B:Int.fdiv 5 (2 ^ min 1 8)=2:=by decide
theorem a7W:Int.fdiv 5 (2 ^ min 2 8)=1:=by decide
theorem a9W:Int.fdiv 6 (2 ^ min 1 8)=3:=by decide
theorem a5Z:Int.fdiv 6 (2 ^ min 2 8)=1:=by decide
theorem bAJ:Int.fdiv 7 (2 ^ min 1 8)=3:=by decide
theorem bA5:Int.fdiv 7 (2 ^ min 2 8)=1:=by decide
theorem aE6{k n a b c d:Nat}{t:Int}(ht:0≤t∧t<8)(may:Nat)(r:Rp)(hr:r=⟨k,n,a,b,c,d,t⟩) :
  ∃ z,EvQ Cx 315 [.agg (cR r),.clo 288 [] [.fp (cR r),.fp [W64 may]]] z∧∃(way:Int) (ok:Bool),z=.tup [I64 way,Bo ok]∧(ok=true→0≤way∧way<4):=by
 subst hr
 have hn:∃ H0:aG,H0=[some ⟨393,[I8 k,I64 n,I8 a,I8 b,I8 c,I8 d,I8 t],true⟩]:=⟨_,rfl⟩
 obtain⟨H0,e0⟩:=hn
 obtain⟨b0,v0⟩:=UB ⟨k,n,a,b,c,d,t⟩ may H0 (w:=0) (by decide)
 obtain⟨b1,v1⟩:=UB ⟨k,n,a,b,c,d,t⟩ may H0 (w:=1) (by decide)
 obtain⟨b2,v2⟩:=UB ⟨k,n,a,b,c,d,t⟩ may H0 (w:=2) (by decide)
 obtain⟨b3,v3⟩:=UB ⟨k,n,a,b,c,d,t⟩ may H0 (w:=3) (by decide)
 subst e0
 simp only[cR]at v0 v1 v2 v3
 refine cA a0V rfl (by simp[MK]) ?_
 obtain rfl|rfl|rfl|rfl|rfl|rfl|rfl|rfl:t=0∨t=1∨t=2∨t=3∨t=4∨t=5∨t=6∨t=7:=by omega
 all_goals simp(disch:=omega)only[go_sem,simprocAttr,eT v0,eT v2]
 repeat' (((first|refine bD (fun hb=>?_) (fun hb=>?_)|refine bY (fun hb=>?_) (fun hb=>?_))<;>(first|subst hb|(have hc:=hb;simp only[Bool.not_eq_eq_eq_not,Bool.not_true,Bool.not_false]at hc)|skip))<;>(first|simp(disch:=omega)only[go_sem,simprocAttr,hb,eT v0,eT v1,eT v2,eT v3,a8i,a9S,bAX,a5u,a6t,a3I,a4M,a5s,bAu,a6x,a4B,a7W,a9W,a5Z,bAJ,bA5]|simp(disch:=omega)only[go_sem,simprocAttr,eT v0,eT v1,eT v2,eT v3,a8i,a9S,bAX,a5u,a6t,a3I,a4M,a5s,bAu,a6x,a4B,a7W,a9W,a5Z,bAJ,bA5]))
 all_goals exact⟨_,_,rfl,fun _=>⟨by omega,by omega⟩⟩
theorem OH{r:Rp}(h:r.Ok){may:Nat}(hm:may<18446744073709551616) :
  ∃(way:Int) (ok:Bool),EvQ Cx 226 [.agg (cR r),W64 may] (.tup [I64 way,Bo ok])∧(ok=true→0≤way∧way<4):=by
 have:∃ z,EvQ Cx 226 [.agg (cR r),W64 may] z∧∃(way:Int) (ok:Bool),z=.tup [I64 way,Bo ok]∧(ok=true→0≤way∧way<4):=by
  have hR:=QO r h
  refine cA aZP rfl (by simp[GX]) ?_
  cases g:r.good with
  |false =>
   rw[g]at hR
   simp(disch:=omega)only[go_sem,simprocAttr,QK.use hR]
   exact⟨_,_,rfl,by simp⟩
  |true =>
   rw[g]at hR
   obtain⟨k,n,a,b,c,d,t,rfl,⟨k1,k4⟩,⟨n1,n4⟩,ha,hb,hc,hd,ht⟩:=J7 h g
   obtain rfl|rfl|rfl|rfl:k=1∨k=2∨k=3∨k=4:=by omega
   ·obtain⟨_,hf,way,ok,rfl,hw⟩:=CN (k:=1) (t:=t) n4 ha hb hc hd may _ rfl
    replace hf:EvQ Cx 312 [.agg [I8 1,I64 n,I8 a,I8 b,I8 c,I8 d,I8 t],.clo 288 [] [.fp [I8 1,I64 n,I8 a,I8 b,I8 c,I8 d,I8 t],.fp [W64 may]]] (.tup [I64 way,Bo ok]):=hf
    replace hR:EvQ Cx 287 [.agg [I8 1,I64 n,I8 a,I8 b,I8 c,I8 d,I8 t]] (Bo true):=hR
    simp(disch:=omega)only[go_sem,simprocAttr,QK.use hR,QK.use D6,QK.use hf]
    exact⟨way,ok,rfl,hw⟩
   ·obtain⟨_,hf,way,ok,rfl,hw⟩:=CN (k:=2) (t:=t) n4 ha hb hc hd may _ rfl
    replace hf:EvQ Cx 312 [.agg [I8 2,I64 n,I8 a,I8 b,I8 c,I8 d,I8 t],.clo 288 [] [.fp [I8 2,I64 n,I8 a,I8 b,I8 c,I8 d,I8 t],.fp [W64 may]]] (.tup [I64 way,Bo ok]):=hf
    replace hR:EvQ Cx 287 [.agg [I8 2,I64 n,I8 a,I8 b,I8 c,I8 d,I8 t]] (Bo true):=hR
    simp(disch:=omega)only[go_sem,simprocAttr,QK.use hR,QK.use D6,QK.use hf]
    exact⟨way,ok,rfl,hw⟩
   ·obtain⟨_,hf,way,ok,rfl,hw⟩:=aE6 (k:=3) (n:=n) (a:=a) (b:=b) (c:=c) (d:=d) (t:=t) ⟨by omega,by omega⟩ may _ rfl
    replace hf:EvQ Cx 315 [.agg [I8 3,I64 n,I8 a,I8 b,I8 c,I8 d,I8 t],.clo 288 [] [.fp [I8 3,I64 n,I8 a,I8 b,I8 c,I8 d,I8 t],.fp [W64 may]]] (.tup [I64 way,Bo ok]):=hf
    replace hR:EvQ Cx 287 [.agg [I8 3,I64 n,I8 a,I8 b,I8 c,I8 d,I8 t]] (Bo true):=hR
    simp(disch:=omega)only[go_sem,simprocAttr,QK.use hR,QK.use D6,QK.use hf]
    exact⟨way,ok,rfl,hw⟩
   ·obtain⟨_,hf,way,ok,rfl,hw⟩:=aCh (k:=4) (t:=t) n1 n4 ha hb hc hd may _ rfl
    replace hf:EvQ Cx 316 [.agg [I8 4,I64 n,I8 a,I8 b,I8 c,I8 d,I8 t],.clo 288 [] [.fp [I8 4,I64 n,I8 a,I8 b,I8 c,I8 d,I8 t],.fp [W64 may]]] (.tup [I64 way,Bo ok]):=hf
    replace hR:EvQ Cx 287 [.agg [I8 4,I64 n,I8 a,I8 b,I8 c,I8 d,I8 t]] (Bo true):=hR
    simp(disch:=omega)only[go_sem,simprocAttr,QK.use hR,QK.use D6,QK.use hf]
    exact⟨way,ok,rfl,hw⟩
 obtain⟨_,h,w,ok,rfl,hd⟩:=this
 exact⟨w,ok,h,hd⟩
end Go.Proofs.YtpdphobnchajbaaGreatDoor.Ev
