/- The law SysListed, awake given. -/
import Derived.Test.YtpdphobnchajbaaGreatDoorP51
import Derived.Test.YtpdphobnchajbaaGreatDoorP33
import Derived.Test.YtpdphobnchajbaaGreatDoorP13
set_option linter.unusedSimpArgs false
set_option linter.unusedVariables false
namespace Go.Proofs.YtpdphobnchajbaaGreatDoor.Ev
open Go Go.RowKit
set_option maxRecDepth 100000
set_option maxHeartbeats 16000000
open Classical in
noncomputable def XE(C:Ctx)(S:List Nat)(X:FuncId→List A→Option A)(f:FuncId)(l:List A):Option A:=if h:f∈S∧∃ r,EvQ C f l r then some (Classical.choose h.2)else X f l
theorem XE_hit{C:Ctx}{S:List Nat}{X:FuncId→List A→Option A}{f:FuncId}{l:List A}{r:A}(hf:f∈S)(h:EvQ C f l r):XE C S X f l=some r:=by
 have hc:f∈S∧∃ r,EvQ C f l r:=⟨hf,r,h⟩
 unfold XE
 rw[dif_pos hc]
 rw[h.one (Classical.choose_spec hc.2)]
theorem XE_miss{C:Ctx}{S:List Nat}{X:FuncId→List A→Option A}{f:FuncId}{l:List A}(hf:f ∉ S):XE C S X f l=X f l:=by
 unfold XE
 rw[dif_neg fun h=>hf h.1]
theorem XE_ok{C:Ctx}{S:List Nat}{X:FuncId→List A→Option A}(hC:CtxOk Tryz.prog C)(hT:C.T=Cx.T)(hX:QOk Cx.T Tryz.prog X):QOk Cx.T Tryz.prog (XE C S X):=by
 intro f l r h
 unfold XE at h
 split at h
 ·rename_i hc
  obtain rfl:=Option.some.inj h
  obtain⟨N,hN⟩:=Classical.choose_spec hc.2
  have:=(call_sound hC N).1 f l _ hN
  rw[hT]at this
  exact this
 ·exact hX f l r h
noncomputable def CA(X:FuncId→List A→Option A):Ctx:=⟨Cx.T,Cx.B,X,fun _=>none⟩
theorem CA_ok{X:FuncId→List A→Option A}(h:QOk Cx.T Tryz.prog X):CtxOk Tryz.prog (CA X):=⟨CxOk.mixed,CxOk.types,CxOk.loops,CxOk.fns,h,fun _ _ _ _ _ _ h=>by cases h⟩
theorem CA_T{X:FuncId→List A→Option A}:(CA X).T=Cx.T:=rfl
noncomputable def XL(CW:Ctx):FuncId→List A→Option A:=XE CW [6] (XE Cx [7,8,9,10,11,12,13] fun _ _=>none)
theorem XL_ok{CW:Ctx}(h:CtxOk Tryz.prog CW)(hT:CW.T=Cx.T):QOk Cx.T Tryz.prog (XL CW):=XE_ok h hT (XE_ok CxOk rfl qOk_none)
theorem XL_at{CW:Ctx}{f:FuncId}{l:List A}{r:A}(hf:f∈([7,8,9,10,11,12,13]:List FuncId))(h0:f ∉ ([6]:List FuncId))(h:EvQ Cx f l r):EvQ (CA (XL CW)) f l r:=evQ_ext (by
 show XL CW f l=some r
 unfold XL
 rw[XE_miss h0]
 exact XE_hit hf h)
theorem XL_none{CW:Ctx}(l:List A):XL CW 3 l=none:=by
 unfold XL
 rw[XE_miss (by decide),XE_miss (by decide)]
theorem dd_len:∀(l s:List Mg),(dd s l).length≤l.length
 |[],s=>by simp[dd]
 |m::l,s=>by
  rw[dd]
  cases memM m s with
  |true=>have:=dd_len l s;simp only[cond_true,List.length_cons];omega
  |false=>have:=dd_len l (s++[m]);simp only[cond_false,List.length_cons];omega
theorem okS_len{E:Sp→Int}{n L:Nat}(hn:n≤4)(hL:L≤6){net:List Mg}{os:List Nat}(ho:os.length≤64):(okS E n L (nextM net os)).length≤100:=by
 have h1:(okS E n L (nextM net os)).length≤(cands n L (nextM net os)).length:=List.length_filter_le ..
 have h2:(nextM net os).length≤os.length:=List.length_filterMap_le ..
 have h3:=dd_len (nextM net os) []
 have h4:∀ k,(nodeS k n).length=n:=fun k=>by unfold nodeS;simp
 have h5:(evS n L).length=n*L:=by rw[← evFrom_all,evFrom_len]
 have h6:n*L≤4*6:=Nat.mul_le_mul hn hL
 have h7:(msgS (dd [] (nextM net os))).length=(dd [] (nextM net os)).length:=by unfold msgS;simp
 unfold cands at h1
 simp only[List.length_append,h4,h5,h7]at h1
 omega
theorem okS_ok{E:Sp→Int}{n L:Nat}(hn:n≤4)(hL:L≤6){net:List Mg}(hm:∀ m∈net,m.Ok){os:List Nat}:∀ x∈okS E n L (nextM net os),x.Ok:=by
 intro x hx
 unfold okS at hx
 have hx:=(List.mem_filter.1 hx).1
 rw[mem_cands]at hx
 have hz:=zMg_ok
 rcases hx with⟨a,b,c,d⟩|⟨a,b,c,d⟩|⟨a,b,c,d⟩
 ·exact⟨by omega,by omega,by omega,b▸hz⟩
 ·exact⟨by omega,by omega,by omega,b▸hz⟩
 ·refine⟨by omega,by omega,by omega,?_⟩
  unfold nextM at d
  obtain⟨i,-,h⟩:=List.mem_filterMap.1 d
  exact hm _ (List.mem_of_getElem? h)
theorem any_mem(l:List Sp)(x:Sp):(l.any fun y=>y.eqB x)=true↔x∈l:=by
 rw[List.any_eq_true]
 constructor
 ·rintro⟨y,hy,h⟩
  exact(Sp.eqB_iff y x).1 h▸hy
 ·exact fun h=>⟨x,h,(Sp.eqB_iff x x).2 rfl⟩
theorem law_loop{CW:Ctx}{WW SS:List A}{x:Sp}{l:List Sp}(hl:l.length≤100)(hn:l.Nodup)(hs:l.Pairwise fun x y=>x.kind≤y.kind)
  (h1:ones WW=true) (hlen:WW.length=585) (z1:∀ H,mapO (freeze H 19) WW=some WW) (z2:shut.shutL WW=true) (z3:∀ H,mapO (freeze H 19) SS=some SS) (z4:shut.shutL SS=true) (l2:SS.length=69) (tw:List.take 585 WW=WW) (tS:List.take 69 SS=SS)
  (hD:∀ y∈l,∃ s' D e,EvQ Cx 11 [.agg WW,.agg SS,eS y] (.tup [.agg (cSy s'),D,I64 e])∧dis e=false)
  {KK:List It} {Q:Ex→Ev.St→Prop} (hE:∀ T:Heap,UnwK (CA (XL CW)) (.out 0) KK ⟨[(52,Bo false),(51,I64 l.length),(50,.sl l.length (cells cS l)),(49,I64 l.length),(3,.ptr 0 0),(4,.ptr 1 0),(7,.sl l.length (cells cS l)),(11,I64 l.length)],some ⟨44,WW,true⟩::some ⟨58,SS,true⟩::some ⟨62,cS x,true⟩::T⟩ Q) :
  ∀(m i:Nat) (T:Heap),i+m=l.length→RunK (CA (XL CW)) (.code (.loop m3_l0)::KK) ⟨[(3,.ptr 0 0),(4,.ptr 1 0),(7,.sl l.length (cells cS l)),(11,I64 i)],some ⟨44,WW,true⟩::some ⟨58,SS,true⟩::some ⟨62,cS x,true⟩::T⟩ Q:=by
 intro m
 induction m with
 |zero =>
  intro i T hi
  obtain rfl:i=l.length:=by omega
  rw[runK_loop]
  simp(disch:=omega)only[CA_T,go_sem,simprocAttr,Int.lt_irrefl]
  exact hE T
 |succ m ih =>
  intro i T hi
  have nx:=fun T=>ih (i+1) T (by omega)
  simp only[Int.natCast_add,Int.natCast_one]at nx
  obtain⟨y,hy⟩:∃ y,l[i]?=some y:=⟨_,List.getElem?_eq_getElem (by omega)⟩
  have ym:=List.mem_of_getElem? hy
  obtain⟨s',D,e,hDy,he⟩:=hD y ym
  have hDo:=XL_at (CW:=CW) (by simp) (by decide) hDy
  have hdis:=XL_at (CW:=CW) (by simp) (by decide) (disabled_ev e)
  rw[he]at hdis
  obtain⟨rr,hr⟩:=cells_at (c:=cS) (n:=14) (fun _=>rfl) hy
  have htk:List.take (i*14) (cells cS l)=cells cS (l.take i):=by
   have h:=cells_app cS (l.take i) (l.drop i)
   rw[List.take_append_drop]at h
   rw[h]
   exact List.take_left' (by rw[cS_len,List.length_take,Nat.min_eq_left (by omega)])
  have htl:(l.take i).length=i:=by rw[List.length_take];omega
  have hli:=listed_ev (l:=l.take i) (by omega) y
  have hna:((l.take i).any fun z=>z.eqB y)=false:=by
   cases hb:(l.take i).any fun z=>z.eqB y with
   |false=>rfl
   |true =>
    have h:=(any_mem (l.take i) y).1 hb
    obtain⟨j,hj⟩:=List.getElem?_of_mem h
    rw[List.getElem?_take]at hj
    split at hj
    ·rename_i hji
     obtain⟨a,ha⟩:=List.getElem?_eq_some_iff.1 hj
     obtain⟨b,hb⟩:=List.getElem?_eq_some_iff.1 hy
     exact absurd (ha.trans hb.symm) (List.pairwise_iff_getElem.1 hn j i a b hji)
    ·cases hj
  rw[hna,htl]at hli
  have hlis:=XL_at (CW:=CW) (by simp) (by decide) hli
  have c1:=cSy_len (s:=s')
  have c2:=cSy_one (s:=s')
  have c3:List.take 69 (cSy s')=cSy s':=List.take_of_length_le (by omega)
  have k0:=cS_len l
  rw[runK_loop]
  cases i with
  |zero =>
   rw[show cells cS (l.take 0)=[]from rfl]at hlis
   simp(disch:=omega)only[CA_T,passK_shut (C:=CA (XL CW)) (f:=11) rfl,go_sem,simprocAttr,hr,hlen,z1,z2,z3,z4,l2,tw,tS,c1,c2,k0,QK.use hDo,QK.use hdis,QK.use hlis]
   rw[loop_norm (l:=[3,4,7,11]) rfl]
   simp(disch:=omega)only[go_sem,simprocAttr]
   exact nx _
  |succ j =>
   obtain⟨z,hz⟩:∃ z,l[j]?=some z:=⟨_,List.getElem?_eq_getElem (by omega)⟩
   obtain⟨rr',hr'⟩:=cells_at (c:=cS) (n:=14) (fun _=>rfl) hz
   have hk:z.kind≤y.kind:=by
    obtain⟨a,ha⟩:=List.getElem?_eq_some_iff.1 hz
    obtain⟨b,hb⟩:=List.getElem?_eq_some_iff.1 hy
    rw[← ha,← hb]
    exact List.pairwise_iff_getElem.1 hs j (j+1) a b (by omega)
   have hj2:(((j+1:Nat):Int)-1).toNat=j:=by omega
   simp(disch:=omega)only[CA_T,passK_shut (C:=CA (XL CW)) (f:=11) rfl,go_sem,simprocAttr,hr,hr',hj2,hlen,z1,z2,z3,z4,l2,tw,tS,c1,c2,k0,htk,QK.use hDo,QK.use hdis,QK.use hlis]
   rw[loop_norm (l:=[3,4,7,11]) rfl]
   simp(disch:=omega)only[go_sem,simprocAttr]
   exact nx _
theorem law_ev{CW:Ctx}(hA:EvQ CW 6 [] (Bo true)){w:Wo}{s:Sy}(wo:w.Ok)(hs:s.Raw){x:Sp}(xo:x.Ok):EvQ (CA (XL CW)) 3 [.agg (cW w),.agg (cSy s),eS x] (Bo true):=by
 have h1:=cW_one w
 have hlen:=cW_len wo
 have z1:∀ H,mapO (freeze H 19) (cW w)=some (cW w):=fun H=>vs_fz H 18 _ (cW_vs w)
 have z2:=vs_shut _ (cW_vs w)
 have z3:∀ H,mapO (freeze H 19) (cSy s)=some (cSy s):=fun H=>vs_fz H 18 _ (cSy_vs s)
 have z4:=vs_shut _ (cSy_vs s)
 have o2:=@cSy_one s
 have l2:=@cSy_len s
 have tw:List.take 585 (cW w)=cW w:=List.take_of_length_le (by omega)
 have tS:List.take 69 (cSy s)=cSy s:=List.take_of_length_le (by omega)
 have hA':EvQ (CA (XL CW)) 6 [] (Bo true):=evQ_ext (XE_hit (by simp) hA)
 obtain⟨_,hLg,bL,rfl⟩:=large_ex wo hs
 have hLg':=XL_at (CW:=CW) (by simp) (by decide) hLg
 obtain⟨bR,hR,gR⟩:=right_ex wo
 have hR':=XL_at (CW:=CW) (by simp) (by decide) hR
 obtain⟨_,hF,bF,rfl,gF⟩:=fits_ex wo hs
 have hF':=XL_at (CW:=CW) (by simp) (by decide) hF
 have hf:=sysfits_ev wo hR fun _=>hF
 refine evQ_of (C:=CA (XL CW)) (m:=fn3) CxB3 (XL_none (CW:=CW) [.agg (cW w),.agg (cSy s),eS x]) (by simp[fn3]) ?_
 cases bL with
 |true =>
  generalize cW w=WW at *
  generalize cSy s=SS at *
  simp(disch:=omega)only[CA_T,passK_shut (C:=CA (XL CW)) (f:=6) rfl,passK_shut (C:=CA (XL CW)) (f:=7) rfl,go_sem,simprocAttr,h1,hlen,z1,z2,z3,z4,o2,l2,tw,tS,QK.use hA',QK.use hLg']
 |false =>
 cases hb:bR&&bF with
 |false =>
  rw[hb]at hf
  have hSt:=XL_at (CW:=CW) (by simp) (by decide) (steps_no wo hf)
  generalize cW w=WW at *
  generalize cSy s=SS at *
  cases bR with
  |false=>simp(disch:=omega)only[CA_T,passK_shut (C:=CA (XL CW)) (f:=6) rfl,passK_shut (C:=CA (XL CW)) (f:=7) rfl,passK_shut (C:=CA (XL CW)) (f:=8) rfl,passK_shut (C:=CA (XL CW)) (f:=9) rfl,go_sem,simprocAttr,h1,hlen,z1,z2,z3,z4,o2,l2,tw,tS,QK.use hA',QK.use hLg',QK.use hSt,QK.use hR']
  |true =>
   obtain rfl:bF=false:=by simpa using hb
   simp(disch:=omega)only[CA_T,passK_shut (C:=CA (XL CW)) (f:=6) rfl,passK_shut (C:=CA (XL CW)) (f:=7) rfl,passK_shut (C:=CA (XL CW)) (f:=8) rfl,passK_shut (C:=CA (XL CW)) (f:=9) rfl,passK_shut (C:=CA (XL CW)) (f:=10) rfl,go_sem,simprocAttr,h1,hlen,z1,z2,z3,z4,o2,l2,tw,tS,QK.use hA',QK.use hLg',QK.use hSt,QK.use hR',QK.use hF']
 |true =>
  rw[hb]at hf
  obtain⟨rfl,rfl⟩:bR=true∧bF=true:=by simpa using hb
  have good:=gR rfl
  have fit:=gF rfl
  have W:w.Run s.cores.length:=⟨wo,good,fit.lc⟩
  have ts:s.Typ s.cores.length:=⟨rfl,by have:=fit.lc;have:=fit.lk;omega,by have:=fit.ln;omega,fun c h=>⟨(hs.core c h).1,fit.buf c h⟩,hs.cache,hs.home,hs.net⟩
  have n1:0<s.cores.length:=by have:=good.geo.1;have:=fit.lc;omega
  have n4:=W.n4
  have lines0:w.lines≤6:=by
   unfold Wo.lines
   have:=Int.ediv_le_self (a:=5) w.o (by omega)
   omega
  obtain⟨os,hN,hos,hol⟩:=next_all hs.net fit.ln good.net.1 good.net.2
  obtain⟨E,hE1,hE2⟩:=step_E W ts fit.ln hN hos hol
  have hSt:=XL_at (CW:=CW) (by simp) (by decide) (steps_yes W ts fit.ln hf hN hos hol hE2)
  have okl:=okS_len (E:=E) n4 lines0 (net:=s.net) hol
  have oko:=okS_ok (E:=E) n4 lines0 hs.net (os:=os)
  have hn:=nodup_okS E s.cores.length w.lines (nextM s.net os)
  have hso:=sort_okS E s.cores.length w.lines (nextM s.net os)
  have hDo:∀ y:Sp,y.Ok→∃ s' D e,EvQ Cx 11 [.agg (cW w),.agg (cSy s),eS y] (.tup [.agg (cSy s'),D,I64 e])∧dis e=dis (E y):=by
   intro y yo
   obtain⟨_,h,s',D,e,rfl,-,-,e1,e2,-⟩:=do_ex W hs ts n1 fit.ln hR hF hE2 yo
   refine⟨s',D,e,h,?_⟩
   by_cases q:E y=0
   ·rw[q]
    rcases e2 q with rfl|rfl<;>rfl
   ·rw[e1 q]
  have hmem:(((okS E s.cores.length w.lines (nextM s.net os)).any fun y=>y.eqB x)==dis (E x))=false:=by
   have h2:=mem_okS hE1 xo
   rw[← any_mem]at h2
   generalize (okS E s.cores.length w.lines (nextM s.net os)).any (fun y=>y.eqB x)=bl at h2 ⊢
   generalize dis (E x)=bd at h2 ⊢
   revert h2
   cases bl<;>cases bd<;>decide
  have hDl:∀ y∈okS E s.cores.length w.lines (nextM s.net os),∃ s' D e,EvQ Cx 11 [.agg (cW w),.agg (cSy s),eS y] (.tup [.agg (cSy s'),D,I64 e])∧dis e=false:=by
   intro y hy
   obtain⟨s',D,e,h,h'⟩:=hDo y (oko y hy)
   exact⟨s',D,e,h,by rw[h'];exact(mem_okS hE1 (oko y hy)).1 hy⟩
  obtain⟨s',D,e,hD,he⟩:=hDo x xo
  rw[← he]at hmem
  have hD':=XL_at (CW:=CW) (by simp) (by decide) hD
  have hdis:=XL_at (CW:=CW) (by simp) (by decide) (disabled_ev e)
  have hli:=XL_at (CW:=CW) (by simp) (by decide) (listed_ev (l:=okS E s.cores.length w.lines (nextM s.net os)) (by omega) x)
  have c1:=cSy_len (s:=s')
  have c2:=cSy_one (s:=s')
  have c3:List.take 69 (cSy s')=cSy s':=List.take_of_length_le (by omega)
  have k0:=cS_len (okS E s.cores.length w.lines (nextM s.net os))
  generalize okS E s.cores.length w.lines (nextM s.net os)=l at *
  generalize cW w=WW at *
  generalize cSy s=SS at *
  generalize (l.any fun y=>y.eqB x)=bl at *
  generalize dis e=bd at *
  simp(disch:=omega)only[CA_T,passK_shut (C:=CA (XL CW)) (f:=6) rfl,passK_shut (C:=CA (XL CW)) (f:=7) rfl,passK_shut (C:=CA (XL CW)) (f:=8) rfl,passK_shut (C:=CA (XL CW)) (f:=9) rfl,passK_shut (C:=CA (XL CW)) (f:=10) rfl,passK_shut (C:=CA (XL CW)) (f:=11) rfl,passK_shut (C:=CA (XL CW)) (f:=12) rfl,passK_shut (C:=CA (XL CW)) (f:=13) rfl,go_sem,simprocAttr,h1,hlen,z1,z2,z3,z4,o2,l2,tw,tS,QK.use hA',QK.use hLg',QK.use hSt,QK.use hR',QK.use hF',QK.use hD',QK.use hdis,QK.use hli,c1,c2,hmem]
  rw[loop_norm (l:=[3,4,7,11]) rfl]
  simp(disch:=omega)only[go_sem,simprocAttr]
  refine law_loop okl hn hso h1 hlen z1 z2 z3 z4 l2 tw tS hDl ?_ l.length 0 _ (by omega)
  intro T
  simp(disch:=omega)only[go_sem,simprocAttr]
end Go.Proofs.YtpdphobnchajbaaGreatDoor.Ev
namespace Go.Proofs.YtpdphobnchajbaaGreatDoor
open Go Go.RowKit Go.Proofs.YtpdphobnchajbaaGreatDoor.Ev
section
variable{H:Type}{enc:TypeId×Value→H}{w:World}{base:Nat}{spare:Nat→Bool}{held:Bool}{v:Value}{d:DataW H}{p:List MemPlace}
theorem open_pred{t:TypeId}{F:List A→Prop}(hr:∀{fuel:Nat} {cs:List Value} {x:DataW H×List MemPlace},DataW.trod enc Tryz.prog w base spare held fuel t cs=some x→Light Tryz.prog t x.1→ReadsP w F cs)(hv:∃ cs,v=.agg cs∧cs.size=Tryz.prog.cellsOf t)(h:DataW.Trod enc Tryz.prog w base spare held t v d p)(hd:Light Tryz.prog t d):∃ l,F l∧R [] (fun _=>False) w (.agg l) v:=by
 obtain⟨cs,rfl,-⟩:=hv
 obtain⟨fuel,hx⟩:=h
 obtain⟨l,h1,h2⟩:=hr hx hd
 refine⟨l,h1,?_⟩
 rw[R]
 exact⟨cs.toList,by simp,by simpa[Value.cells]using h2⟩
theorem open_world(hv:∃ cs,v=.agg cs∧cs.size=Tryz.prog.cellsOf 44)(h:DataW.Trod enc Tryz.prog w base spare held 44 v d p)(hd:Light Tryz.prog 44 d):∃ l,(∃ W:Wo,W.Ok∧l=cW W)∧R [] (fun _=>False) w (.agg l) v:=open_pred world_reads hv h hd
theorem open_sys(hv:∃ cs,v=.agg cs∧cs.size=Tryz.prog.cellsOf 58)(h:DataW.Trod enc Tryz.prog w base spare held 58 v d p)(hd:Light Tryz.prog 58 d):∃ l,(∃ s:Sy,s.Raw∧l=cSy s)∧R [] (fun _=>False) w (.agg l) v:=open_pred sys_reads hv h hd
theorem open_step(hv:∃ cs,v=.agg cs∧cs.size=Tryz.prog.cellsOf 62)(h:DataW.Trod enc Tryz.prog w base spare held 62 v d p)(hd:Light Tryz.prog 62 d):∃ l,(∃ s:Sp,s.Ok∧l=cS s)∧R [] (fun _=>False) w (.agg l) v:=open_pred step_reads hv h hd
end
namespace Ev
noncomputable def CWL:Ctx:=CA (XL (CS Y11))
theorem CWL_ok:CtxOk Tryz.prog CWL:=CA_ok (XL_ok (CS_ok Y11_ok) rfl)
theorem CWL_B:CWL.B 3=some fn3:=CxB3
theorem SysListed_ev{w:Wo}{s:Sy}(wo:w.Ok)(hs:s.Raw){x:Sp}(xo:x.Ok):EvQ CWL 3 [.agg (cW w),.agg (cSy s),eS x] (Bo true):=law_ev awake_ev wo hs xo
end Ev
end Go.Proofs.YtpdphobnchajbaaGreatDoor
