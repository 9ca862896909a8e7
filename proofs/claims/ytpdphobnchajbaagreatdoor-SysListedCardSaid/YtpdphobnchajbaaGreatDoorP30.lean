/- spec.Right: whatever the table. -/
import Derived.Test.YtpdphobnchajbaaGreatDoorP27
import Derived.Test.YtpdphobnchajbaaGreatDoorP14
set_option linter.unusedSimpArgs false
set_option linter.unusedVariables false
namespace Go.Proofs.YtpdphobnchajbaaGreatDoor.Ev
open Go Go.RowKit
set_option maxRecDepth 100000
set_option maxHeartbeats 16000000
theorem named_loop{s:ByteArray}(hs:s.size≤16){KK:List It}{Q:Ex→Ev.St→Prop}
  (hE:∀ e:Env,UnwK Cx (.out 0) KK ⟨e,[]⟩ Q)
  (hX:∀ e:Env,look e 2=some (Bo false)→UnwK Cx .back KK ⟨e,[]⟩ Q) :
  ∀(n i:Nat),i+n=s.size→RunK Cx (.code (.loop m68_l0)::KK) ⟨[(0,Sv s),(14,I64 s.size),(15,I64 i)],[]⟩ Q:=by
 intro n
 induction n with
 |zero =>
  intro i hi
  rw[runK_loop]
  simp(disch:=omega)only[go_sem,simprocAttr]
  exact hE _
 |succ n ih =>
  intro i hi
  obtain⟨c,hc⟩:=at_ex (s:=s) (i:=i) (by omega)
  have hr:=c_rng c
  have next:RunK Cx (.code (.loop m68_l0)::KK) ⟨[(0,Sv s),(14,I64 s.size),(15,I64 ((i:Int)+1))],[]⟩ Q:=by
   have:=ih (i+1) (by omega)
   simpa only[Int.natCast_add,Int.natCast_one]using this
  rw[runK_loop]
  simp(disch:=omega)only[go_sem,simprocAttr,hc]
  repeat' (((first|refine runK_bif (fun hb=>?_) (fun hb=>?_)|refine wantK_bif (fun hb=>?_) (fun hb=>?_))<;>(first|subst hb|(have hc:=hb;simp only[decide_eq_true_eq,decide_eq_false_iff_not,beq_iff_eq,beq_eq_false_iff_ne,Bool.not_eq_eq_eq_not,Bool.not_true,Bool.not_false,ne_eq,Int.not_lt,gt_iff_lt]at hc)|skip))<;>(first|simp(disch:=omega)only[go_sem,simprocAttr,hb]|simp(disch:=omega)only[go_sem,simprocAttr,true_and]))
  all_goals first|exact hX _ rfl|(rw[loop_norm (l:=[0,14,15]) rfl];simp(disch:=omega)only[go_sem,simprocAttr];exact next)|done
theorem named_ex(s:ByteArray):∃ b,EvQ Cx 68 [Sv s] (Bo b):=by
 have:∃ y,EvQ Cx 68 [Sv s] y∧isBo y:=by
  refine evG_of CxB68 rfl (by simp[fn68]) ?_
  by_cases h1:s.size<1
  ·simp(disch:=omega)only[go_sem,simprocAttr]
   exact⟨_,rfl⟩
  by_cases h16:16<s.size
  ·simp(disch:=omega)only[go_sem,simprocAttr]
   exact⟨_,rfl⟩
  simp(disch:=omega)only[go_sem,simprocAttr]
  rw[loop_norm (l:=[0,14,15]) rfl]
  simp(disch:=omega)only[go_sem,simprocAttr]
  refine named_loop (by omega) ?_ ?_ s.size 0 (by omega)
  ·intro e
   simp(disch:=omega)only[go_sem,simprocAttr]
   exact⟨_,rfl⟩
  ·intro e e2
   simp(disch:=omega)only[go_sem,simprocAttr,e2]
   exact⟨_,rfl⟩
 obtain⟨_,h,b,rfl⟩:=this
 exact⟨b,h⟩
structure Ce where
 rule:Int
 to:Int
 acts:Nat
abbrev U16(n:Int):A:=.v (.int .u16 n)
abbrev cE(c:Ce):List A:=[I8 c.rule,I8 c.to,U16 c.acts]
structure Ce.Ok(c:Ce):Prop where
 rule:0≤c.rule∧c.rule<256
 to:0≤c.to∧c.to<256
 acts:c.acts<65536
theorem part_ex(h:ByteArray)(a b d:Int)(c:Ce):∃ y,EvQ Cx 70 [.agg [Sv h,I64 a,I64 b,I64 d],.agg (cE c)] (Bo y):=by
 have:∃ y,EvQ Cx 70 [.agg [Sv h,I64 a,I64 b,I64 d],.agg (cE c)] y∧isBo y:=by
  refine evG_of CxB70 rfl (by simp[fn70]) ?_
  simp(disch:=omega)only[go_sem,simprocAttr]
  repeat' (((first|refine runK_bif (fun hb=>?_) (fun hb=>?_)|refine wantK_bif (fun hb=>?_) (fun hb=>?_))<;>(first|subst hb|(have hc:=hb;simp only[decide_eq_true_eq,decide_eq_false_iff_not,beq_iff_eq,beq_eq_false_iff_ne,ne_eq,Int.not_lt]at hc)|skip))<;>(first|simp(disch:=omega)only[go_sem,simprocAttr,hb]|simp(disch:=omega)only[go_sem,simprocAttr,true_and]))
  all_goals first|exact⟨_,rfl⟩|done
 obtain⟨_,h,b,rfl⟩:=this
 exact⟨b,h⟩
structure Tl where
 name:ByteArray
 C:List Ce
 H:List Ce
structure Tl.Ok(t:Tl):Prop where
 c:t.C.length=168
 h:t.H.length=20
 cs:∀ x∈t.C,x.Ok
 hs:∀ x∈t.H,x.Ok
def cT9(t:Tl):List A:=Sv t.name::(cells cE t.C++cells cE t.H)
theorem cells_len3{α:Type}(c:α→List A)(n:Nat)(h:∀ x,(c x).length=n):∀ l:List α,(cells c l).length=l.length*n
 |[]=>by simp[cells]
 |x::l=>by rw[cells,List.length_append,h,cells_len3 c n h l,List.length_cons,Nat.add_mul];omega
theorem cells_drop{α:Type}(c:α→List A)(n:Nat)(h:∀ x,(c x).length=n):∀{l:List α} {i:Nat} {x:α} (r:List A),l[i]?=some x→∃ r',(cells c l++r).drop (i*n)=c x++r'
 |[],i,x,r,e=>by simp at e
 |y::l,0,x,r,e=>by
  simp only[List.getElem?_cons_zero,Option.some.injEq]at e
  subst e
  rw[cells,Nat.zero_mul,List.append_assoc]
  exact⟨_,rfl⟩
 |y::l,i+1,x,r,e=>by
  obtain⟨r',hr⟩:=cells_drop c n h (l:=l) (i:=i) r (by simpa using e)
  refine⟨r',?_⟩
  rw[cells,List.append_assoc,show(i+1)*n=n+i*n by rw[Nat.add_mul];omega,← List.drop_drop,List.drop_left' (h y),hr]
section
variable{t:Tl}
theorem cT_size(ht:t.Ok):(cT9 t).length=565:=by
 unfold cT9
 rw[List.length_cons,List.length_append,cells_len3 cE 3 (fun _=>rfl),cells_len3 cE 3 (fun _=>rfl),ht.c,ht.h]
theorem cell_c(ht:t.Ok){i j:Nat}(hi:i<12)(hj:j<14):∃(z:Ce) (r:List A),List.drop (1+i*42+j*3) (cT9 t)=cE z++r:=by
 have hl:=ht.c
 obtain⟨z,hz⟩:∃ z,t.C[i*14+j]?=some z:=⟨_,List.getElem?_eq_getElem (by omega)⟩
 obtain⟨r,hr⟩:=cells_drop cE 3 (fun _=>rfl) (cells cE t.H) hz
 refine⟨z,r,?_⟩
 rw[← hr,cT9,show 1+i*42+j*3=(i*14+j)*3+1 by omega,List.drop_succ_cons]
theorem cell_h(ht:t.Ok){i j:Nat}(hi:i<4)(hj:j<5):∃(z:Ce) (r:List A),List.drop (505+i*15+j*3) (cT9 t)=cE z++r:=by
 have hl:=ht.h
 have hc:=ht.c
 obtain⟨z,hz⟩:∃ z,t.H[i*5+j]?=some z:=⟨_,List.getElem?_eq_getElem (by omega)⟩
 obtain⟨r,hr⟩:=cells_drop cE 3 (fun _=>rfl) [] hz
 refine⟨z,r,?_⟩
 rw[← hr,cT9,show 505+i*15+j*3=504+(i*5+j)*3+1 by omega,List.drop_succ_cons,← List.drop_drop,List.drop_left' (by rw[cells_len3 cE 3 (fun _=>rfl),hc]),List.append_nil]
theorem caches_ev:EvQ Cx 143 [] (.agg [Sv ⟨#[99,97,99,104,101]⟩,I64 1,I64 2,I64 3]):=evQ_fast 60 (by kernel_rfl)
theorem homes_ev:EvQ Cx 144 [] (.agg [Sv ⟨#[104,111,109,101]⟩,I64 4,I64 5,I64 6]):=evQ_fast 60 (by kernel_rfl)
theorem inner_c(ht:t.Ok){x:Nat}(hx:x<12){KK:List It}{Q:Ex→Ev.St→Prop}
  (hX:∀(e:Env) (T:Heap),UnwK Cx .back KK ⟨e,some ⟨42,cT9 t,true⟩::some ⟨4,[Bo false],true⟩::some ⟨0,[.lrec 18 [9] [1,2] m35_l0 m35_l1,I64 2,I64 1,.ptr 0 0,.ptr 1 0],true⟩::T⟩ Q)
  (hE:∀(T:Heap),UnwK Cx (.out 2) KK ⟨[(10,Bo false),(0,.yl 2),(2,I64 x),(6,I64 x),(9,I64 14)],some ⟨42,cT9 t,true⟩::some ⟨4,[Bo false],true⟩::some ⟨0,[.lrec 18 [9] [1,2] m35_l0 m35_l1,I64 0,I64 0,.ptr 0 0,.ptr 1 0],true⟩::T⟩ Q) :
  ∀(m y:Nat) (T:Heap),y+m=14→RunK Cx (.code (.loop m142_l1)::KK) ⟨[(0,.yl 2),(2,I64 x),(6,I64 x),(9,I64 y)],some ⟨42,cT9 t,true⟩::some ⟨4,[Bo false],true⟩::some ⟨0,[.lrec 18 [9] [1,2] m35_l0 m35_l1,I64 0,I64 0,.ptr 0 0,.ptr 1 0],true⟩::T⟩ Q:=by
 intro m
 induction m with
 |zero =>
  intro y T hy
  obtain rfl:y=14:=by omega
  rw[runK_loop]
  simp(disch:=omega)only[go_sem,simprocAttr]
  exact hE _
 |succ m ih =>
  intro y T hy
  obtain⟨z,r,hz⟩:=cell_c ht (i:=x) (j:=y) hx (by omega)
  obtain⟨b,hb⟩:=part_ex ⟨#[99,97,99,104,101]⟩ 1 2 3 z
  have hlen:=cT_size ht
  rw[runK_loop]
  cases b with
  |false =>
   simp(disch:=omega)only[go_sem,simprocAttr,anyK_yl,ylK_in,roundK_some,asgR_go,asgR_some,rndR_back,rndR_some,RecA.blk,zipE,recOf,QK.use caches_ev,passK_in CxB71 CxP71,hz,QK.use hb]
   exact hX _ _
  |true =>
   simp(disch:=omega)only[go_sem,simprocAttr,anyK_yl,ylK_in,roundK_some,asgR_go,asgR_some,rndR_go,rndR_some,RecA.blk,zipE,recOf,QK.use caches_ev,passK_in CxB71 CxP71,hz,QK.use hb]
   rw[loop_norm (l:=[0,2,6,9]) rfl]
   simp(disch:=omega)only[go_sem,simprocAttr]
   have:=fun T=>ih (y+1) T (by omega)
   simp only[Int.natCast_add,Int.natCast_one]at this
   exact this _
theorem outer_c(ht:t.Ok){KK:List It}{Q:Ex→Ev.St→Prop}
  (hX:∀(e:Env) (T:Heap),UnwK Cx .back KK ⟨e,some ⟨42,cT9 t,true⟩::some ⟨4,[Bo false],true⟩::some ⟨0,[.lrec 18 [9] [1,2] m35_l0 m35_l1,I64 2,I64 1,.ptr 0 0,.ptr 1 0],true⟩::T⟩ Q)
  (hE:∀(T:Heap),UnwK Cx (.out 0) KK ⟨[(7,Bo false),(0,.yl 2),(6,I64 12)],some ⟨42,cT9 t,true⟩::some ⟨4,[Bo false],true⟩::some ⟨0,[.lrec 18 [9] [1,2] m35_l0 m35_l1,I64 0,I64 0,.ptr 0 0,.ptr 1 0],true⟩::T⟩ Q) :
  ∀(m x:Nat) (T:Heap),x+m=12→RunK Cx (.code (.loop m142_l0)::KK) ⟨[(0,.yl 2),(6,I64 x)],some ⟨42,cT9 t,true⟩::some ⟨4,[Bo false],true⟩::some ⟨0,[.lrec 18 [9] [1,2] m35_l0 m35_l1,I64 0,I64 0,.ptr 0 0,.ptr 1 0],true⟩::T⟩ Q:=by
 intro m
 induction m with
 |zero =>
  intro x T hx
  obtain rfl:x=12:=by omega
  rw[runK_loop]
  simp(disch:=omega)only[go_sem,simprocAttr]
  exact hE _
 |succ m ih =>
  intro x T hx
  rw[runK_loop]
  simp(disch:=omega)only[go_sem,simprocAttr]
  rw[loop_norm (l:=[0,2,6,9]) rfl]
  simp(disch:=omega)only[go_sem,simprocAttr]
  refine inner_c ht (by omega) ?_ ?_ 14 0 T rfl
  ·intro e T
   simp(disch:=omega)only[go_sem,simprocAttr]
   exact hX _ _
  ·intro T
   simp(disch:=omega)only[go_sem,simprocAttr]
   rw[loop_norm (l:=[0,6]) rfl]
   simp(disch:=omega)only[go_sem,simprocAttr]
   have:=fun T=>ih (x+1) T (by omega)
   simp only[Int.natCast_add,Int.natCast_one]at this
   exact this _
theorem inner_h(ht:t.Ok){x:Nat}(hx:x<4){KK:List It}{Q:Ex→Ev.St→Prop}
  (hX:∀(e:Env) (T:Heap),UnwK Cx .back KK ⟨e,some ⟨42,cT9 t,true⟩::some ⟨4,[Bo false],true⟩::some ⟨0,[.lrec 18 [9] [1,2] m35_l0 m35_l1,I64 2,I64 1,.ptr 0 0,.ptr 1 0],true⟩::T⟩ Q)
  (hE:∀(T:Heap),UnwK Cx (.out 6) KK ⟨[(25,Bo false),(0,.yl 2),(4,I64 x),(21,I64 x),(24,I64 5)],some ⟨42,cT9 t,true⟩::some ⟨4,[Bo false],true⟩::some ⟨0,[.lrec 18 [9] [1,2] m35_l0 m35_l1,I64 0,I64 0,.ptr 0 0,.ptr 1 0],true⟩::T⟩ Q) :
  ∀(m y:Nat) (T:Heap),y+m=5→RunK Cx (.code (.loop m142_l3)::KK) ⟨[(0,.yl 2),(4,I64 x),(21,I64 x),(24,I64 y)],some ⟨42,cT9 t,true⟩::some ⟨4,[Bo false],true⟩::some ⟨0,[.lrec 18 [9] [1,2] m35_l0 m35_l1,I64 0,I64 0,.ptr 0 0,.ptr 1 0],true⟩::T⟩ Q:=by
 intro m
 induction m with
 |zero =>
  intro y T hy
  obtain rfl:y=5:=by omega
  rw[runK_loop]
  simp(disch:=omega)only[go_sem,simprocAttr]
  exact hE _
 |succ m ih =>
  intro y T hy
  obtain⟨z,r,hz⟩:=cell_h ht (i:=x) (j:=y) hx (by omega)
  obtain⟨b,hb⟩:=part_ex ⟨#[104,111,109,101]⟩ 4 5 6 z
  have hlen:=cT_size ht
  rw[runK_loop]
  cases b with
  |false =>
   simp(disch:=omega)only[go_sem,simprocAttr,anyK_yl,ylK_in,roundK_some,asgR_go,asgR_some,rndR_back,rndR_some,RecA.blk,zipE,recOf,QK.use homes_ev,passK_in CxB71 CxP71,hz,QK.use hb]
   exact hX _ _
  |true =>
   simp(disch:=omega)only[go_sem,simprocAttr,anyK_yl,ylK_in,roundK_some,asgR_go,asgR_some,rndR_go,rndR_some,RecA.blk,zipE,recOf,QK.use homes_ev,passK_in CxB71 CxP71,hz,QK.use hb]
   rw[loop_norm (l:=[0,4,21,24]) rfl]
   simp(disch:=omega)only[go_sem,simprocAttr]
   have:=fun T=>ih (y+1) T (by omega)
   simp only[Int.natCast_add,Int.natCast_one]at this
   exact this _
theorem outer_h(ht:t.Ok){KK:List It}{Q:Ex→Ev.St→Prop}
  (hX:∀(e:Env) (T:Heap),UnwK Cx .back KK ⟨e,some ⟨42,cT9 t,true⟩::some ⟨4,[Bo false],true⟩::some ⟨0,[.lrec 18 [9] [1,2] m35_l0 m35_l1,I64 2,I64 1,.ptr 0 0,.ptr 1 0],true⟩::T⟩ Q)
  (hE:∀(T:Heap),UnwK Cx (.out 4) KK ⟨[(22,Bo false),(0,.yl 2),(21,I64 4)],some ⟨42,cT9 t,true⟩::some ⟨4,[Bo false],true⟩::some ⟨0,[.lrec 18 [9] [1,2] m35_l0 m35_l1,I64 0,I64 0,.ptr 0 0,.ptr 1 0],true⟩::T⟩ Q) :
  ∀(m x:Nat) (T:Heap),x+m=4→RunK Cx (.code (.loop m142_l2)::KK) ⟨[(0,.yl 2),(21,I64 x)],some ⟨42,cT9 t,true⟩::some ⟨4,[Bo false],true⟩::some ⟨0,[.lrec 18 [9] [1,2] m35_l0 m35_l1,I64 0,I64 0,.ptr 0 0,.ptr 1 0],true⟩::T⟩ Q:=by
 intro m
 induction m with
 |zero =>
  intro x T hx
  obtain rfl:x=4:=by omega
  rw[runK_loop]
  simp(disch:=omega)only[go_sem,simprocAttr]
  exact hE _
 |succ m ih =>
  intro x T hx
  rw[runK_loop]
  simp(disch:=omega)only[go_sem,simprocAttr]
  rw[loop_norm (l:=[0,4,21,24]) rfl]
  simp(disch:=omega)only[go_sem,simprocAttr]
  refine inner_h ht (by omega) ?_ ?_ 5 0 T rfl
  ·intro e T
   simp(disch:=omega)only[go_sem,simprocAttr]
   exact hX _ _
  ·intro T
   simp(disch:=omega)only[go_sem,simprocAttr]
   rw[loop_norm (l:=[0,21]) rfl]
   simp(disch:=omega)only[go_sem,simprocAttr]
   have:=fun T=>ih (x+1) T (by omega)
   simp only[Int.natCast_add,Int.natCast_one]at this
   exact this _
theorem cT_one(t:Tl):ones (cT9 t)=true:=by
 have h:∀ l:List Ce,ones (cells cE l)=true:=fun l=>by
  induction l with
  |nil=>rfl
  |cons x l ih=>simp[cells,ones,one,ih]
 have h2:∀ a b:List A,ones a=true→ones b=true→ones (a++b)=true:=fun a b ha hb=>by
  induction a with
  |nil=>exact hb
  |cons x a ih =>
   rw[List.cons_append]
   simp only[ones,Bool.and_eq_true]at ha ⊢
   exact⟨ha.1,ih ha.2⟩
 unfold cT9
 simp only[ones,one,Bool.true_and]
 exact h2 _ _ (h _) (h _)
theorem spec_ex(ht:t.Ok):∃ b,EvQ Cx 35 [.agg (cT9 t)] (Bo b):=by
 have:∃ y,EvQ Cx 35 [.agg (cT9 t)] y∧isBo y:=by
  obtain⟨b,hb⟩:=named_ex t.name
  have h1:=cT_one t
  have hlen:=cT_size ht
  have h0:(cT9 t)[0]?=some (Sv t.name):=rfl
  refine evG_of CxB35 rfl (by simp[fn35]) ?_
  cases b with
  |false =>
   simp(disch:=omega)only[go_sem,simprocAttr,h1,hlen,h0,QK.use hb]
   exact⟨_,rfl⟩
  |true =>
   simp(disch:=omega)only[go_sem,simprocAttr,runK_rf,rfK_fn,newRecA,h1,hlen,h0,QK.use hb,passK_in CxB69 CxP69]
   rw[callK_in CxB142 CxP142]
   refine⟨by simp[fn142],?_⟩
   simp(disch:=omega)only[go_sem,simprocAttr]
   rw[loop_norm (l:=[0,6]) rfl]
   simp(disch:=omega)only[go_sem,simprocAttr]
   refine outer_c ht ?_ ?_ 12 0 [] rfl
   ·intro e T
    simp(disch:=omega)only[go_sem,simprocAttr,endK_back,exK_back,pendK_some,recOf,pending,exOfN]
    exact⟨_,rfl⟩
   ·intro T
    simp(disch:=omega)only[go_sem,simprocAttr]
    rw[loop_norm (l:=[0,21]) rfl]
    simp(disch:=omega)only[go_sem,simprocAttr]
    refine outer_h ht ?_ ?_ 4 0 T rfl
    ·intro e T
     simp(disch:=omega)only[go_sem,simprocAttr,endK_back,exK_back,pendK_some,recOf,pending,exOfN]
     exact⟨_,rfl⟩
    ·intro T
     simp(disch:=omega)only[go_sem,simprocAttr,endK_go,exK_go,pendK_some,recOf,pending,exOfN]
     exact⟨_,rfl⟩
 obtain⟨_,h,b,rfl⟩:=this
 exact⟨b,h⟩
end
structure Wo where
 P:Pg
 c:Int
 h:Int
 o:Int
 s:Int
 y:Int
 net:Int
 view:Int
 repl:Int
 buf:Int
 evict:Bool
 T:Tl
structure Wo.Ok(w:Wo):Prop where
 P:w.P.Ok
 T:w.T.Ok
 net:0≤w.net∧w.net<256
 view:0≤w.view∧w.view<256
 repl:0≤w.repl∧w.repl<256
def Wo.gr(w:Wo):List A:=[I64 w.c,I64 w.h,I64 w.o,I64 w.s,I64 w.y,I8 w.net,I8 w.view,I8 w.repl,I64 w.buf,Bo w.evict]
def cW(w:Wo):List A:=cPg w.P++(w.gr++cT9 w.T)
structure Wo.Good(w:Wo):Prop where
 geo:OkG w.c w.h w.o w.s w.y
 threads:(w.P.threads.length:Int)≤w.c
 net:1≤w.net∧w.net≤3
 view:1≤w.view∧w.view≤3
 repl:1≤w.repl∧w.repl≤4
 buf:0≤w.buf∧w.buf≤12
theorem cond_cells(x:Cd):∃ k t n v l,cCd x=[I8 k,I8 t,I8 n,I8 v,.sl l.length (cCds l)]:=by
 cases x
 rw[cCd]
 exact⟨_,_,_,_,_,rfl⟩
theorem ones_app:∀ a b:List A,ones a=true→ones b=true→ones (a++b)=true:=fun a b ha hb=>by
 induction a with
 |nil=>exact hb
 |cons x a ih =>
  rw[List.cons_append]
  simp only[ones,Bool.and_eq_true]at ha ⊢
  exact⟨ha.1,ih ha.2⟩
theorem cPg_one(p:Pg):ones (cPg p)=true:=by
 unfold cPg Pg.low
 cases p.cond
 rw[cCd]
 rfl
theorem cW_one(w:Wo):ones (cW w)=true:=ones_app _ _ (cPg_one _) (ones_app _ _ rfl (cT_one _))
theorem cPg_len(p:Pg):(cPg p).length=10:=by
 unfold cPg Pg.low
 cases p.cond
 rw[cCd]
 rfl
theorem cW_len{w:Wo}(ok:w.Ok):(cW w).length=585:=by
 unfold cW Wo.gr
 rw[List.length_append,List.length_append,cPg_len,cT_size ok.T]
 rfl
theorem mapO_app(f:A→Option A):∀ a b:List A,mapO f a=some a→mapO f b=some b→mapO f (a++b)=some (a++b)
 |[],b,_,h=>h
 |x::a,b,h,h'=>by
  rw[mapO_cons]at h
  rw[List.cons_append,mapO_cons]
  cases e1:f x with
  |none=>rw[e1]at h;cases h
  |some y =>
   cases e2:mapO f a with
   |none=>rw[e1,e2]at h;cases h
   |some ys =>
    rw[e1,e2]at h
    simp only[Option.some.injEq,List.cons.injEq]at h
    obtain⟨rfl,rfl⟩:=h
    rw[mapO_app f _ b e2 h']
theorem cE_fz(H:Heap)(n:Nat):∀ l:List Ce,mapO (freeze H (n+1)) (cells cE l)=some (cells cE l)
 |[]=>rfl
 |x::l=>by
  simp only[cells,List.cons_append,List.nil_append,mapO_cons,fz_v,cE_fz H n l]
theorem cE_shut:∀ l:List Ce,shut.shutL (cells cE l)=true
 |[]=>rfl
 |x::l=>by
  simp only[cells,List.cons_append,List.nil_append,shut.shutL,shut,Bool.true_and,cE_shut l]
theorem shutL_app:∀ a b:List A,shut.shutL a=true→shut.shutL b=true→shut.shutL (a++b)=true
 |[],b,_,h=>h
 |x::a,b,h,h'=>by
  rw[List.cons_append]
  simp only[shut.shutL,Bool.and_eq_true]at h ⊢
  exact⟨h.1,shutL_app a b h.2 h'⟩
theorem cT9_fz(t:Tl)(H:Heap)(n:Nat):mapO (freeze H (n+1)) (cT9 t)=some (cT9 t):=by
 unfold cT9
 rw[mapO_cons,fz_v,mapO_app _ _ _ (cE_fz H n _) (cE_fz H n _)]
theorem cT9_shut(t:Tl):shut.shutL (cT9 t)=true:=by
 unfold cT9
 simp only[shut.shutL,shut,Bool.true_and]
 exact shutL_app _ _ (cE_shut _) (cE_shut _)
theorem within_ev(n a b:Int):EvQ Cx 32 [I8 n,I8 a,I8 b] (Bo (decide (a≤n∧n≤b))):=by
 refine evQ_of CxB32 rfl (by simp[fn32]) ?_
 by_cases h1:a≤n
 ·by_cases h2:n≤b
  ·rw[decide_eq_true ⟨h1,h2⟩]
   simp(disch:=omega)only[go_sem,simprocAttr]
  ·rw[decide_eq_false (fun h=>h2 h.2)]
   simp(disch:=omega)only[go_sem,simprocAttr]
 ·rw[decide_eq_false (fun h=>h1 h.1)]
  simp(disch:=omega)only[go_sem,simprocAttr]
theorem right_ex{w:Wo}(ok:w.Ok):∃ b,EvQ Cx 9 [.agg (cW w)] (Bo b)∧(b=true→w.Good):=by
 have:∃ y,EvQ Cx 9 [.agg (cW w)] y∧∃ b,y=Bo b∧(b=true→w.Good):=by
  obtain⟨k0,t0,n0,v0,l0,hc⟩:=cond_cells w.P.cond
  have hP:cPg w.P=[Sv w.P.name,.sl w.P.locs.length (w.P.locs.map Sv),.sl w.P.init.length (w.P.init.map fun n=>I8 n),.sl w.P.threads.length (w.P.threads.map fun l=>insA l),I8 w.P.ask,I8 k0,I8 t0,I8 n0,I8 v0,.sl l0.length (cCds l0)]:=by
   unfold cPg Pg.low
   rw[hc]
   rfl
  obtain⟨n,hn⟩:=check_ex w.P ok.P
  rw[hP]at hn
  have hG:=gright w.c w.h w.o w.s w.y
  have hN:=within_ev w.net 1 3
  have hV:=within_ev w.view 1 3
  have hR:=within_ev w.repl 1 4
  obtain⟨bT,hT⟩:=spec_ex ok.T
  have h1:=cW_one w
  have hlen:=cW_len ok
  have hTl:=cT_size ok.T
  have hta:List.take 565 (cT9 w.T)=cT9 w.T:=List.take_of_length_le (by omega)
  have hth:=ok.P.threads
  unfold cW Wo.gr at *
  rw[hP]at h1 hlen ⊢
  simp only[List.cons_append,List.nil_append]at h1 hlen ⊢
  refine evG_of CxB9 rfl (by simp[fn9]) ?_
  by_cases q0:n=0
  case neg =>
   simp(disch:=omega)only[go_sem,simprocAttr,h1,QK.use hn]
   exact fun h=>h.elim
  subst q0
  by_cases q1:OkG w.c w.h w.o w.s w.y
  case neg =>
   rw[decide_eq_false q1]at hG
   simp(disch:=omega)only[go_sem,simprocAttr,h1,QK.use hn,QK.use hG]
   exact fun h=>h.elim
  rw[decide_eq_true q1]at hG
  by_cases q2:(w.P.threads.length:Int)≤w.c
  case neg =>
   simp(disch:=omega)only[go_sem,simprocAttr,h1,QK.use hn,QK.use hG]
   exact fun h=>h.elim
  by_cases q3:1≤w.net∧w.net≤3
  case neg =>
   rw[decide_eq_false q3]at hN
   simp(disch:=omega)only[go_sem,simprocAttr,h1,QK.use hn,QK.use hG,QK.use hN]
   exact fun h=>h.elim
  rw[decide_eq_true q3]at hN
  by_cases q4:1≤w.view∧w.view≤3
  case neg =>
   rw[decide_eq_false q4]at hV
   simp(disch:=omega)only[go_sem,simprocAttr,h1,QK.use hn,QK.use hG,QK.use hN,QK.use hV]
   exact fun h=>h.elim
  rw[decide_eq_true q4]at hV
  by_cases q5:1≤w.repl∧w.repl≤4
  case neg =>
   rw[decide_eq_false q5]at hR
   simp(disch:=omega)only[go_sem,simprocAttr,h1,QK.use hn,QK.use hG,QK.use hN,QK.use hV,QK.use hR]
   exact fun h=>h.elim
  rw[decide_eq_true q5]at hR
  by_cases q6:0≤w.buf
  case neg =>
   simp(disch:=omega)only[go_sem,simprocAttr,h1,QK.use hn,QK.use hG,QK.use hN,QK.use hV,QK.use hR]
   exact fun h=>h.elim
  by_cases q7:w.buf≤12
  case neg =>
   simp(disch:=omega)only[go_sem,simprocAttr,h1,QK.use hn,QK.use hG,QK.use hN,QK.use hV,QK.use hR]
   exact fun h=>h.elim
  simp(disch:=omega)only[go_sem,simprocAttr,h1,QK.use hn,QK.use hG,QK.use hN,QK.use hV,QK.use hR,hTl,hta,cT9_fz,cT9_shut,QK.use hT]
  exact fun _=>⟨q1,q2,q3,q4,⟨q5.1,q5.2⟩,q6,q7⟩
 obtain⟨_,h,b,rfl,hb⟩:=this
 exact⟨b,h,hb⟩
end Go.Proofs.YtpdphobnchajbaaGreatDoor.Ev
