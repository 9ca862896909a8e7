/- sys.own: rows of its own. -/
import Derived.Test.YtpdphobnchajbaaGreatDoorP50
set_option linter.unusedSimpArgs false
set_option linter.unusedVariables false
namespace Go.Proofs.YtpdphobnchajbaaGreatDoor.Ev
open Go Go.RowKit
set_option maxRecDepth 100000
set_option maxHeartbeats 16000000
theorem clone_store{l:List (Int×Int)}(hl:l.length≤255):EvQ Cx 73 [bufA l] (bufA l):=by
 cases l with
 |nil =>
  exact evQ_ext rfl
 |cons x l =>
  have e1:=bufC_len (x::l)
  have e2:=bufC_take (x::l)
  have e3:=bufC_nrm (x::l)
  have e4:∀ H n,mapO (freeze H (n+1)) (bufC (x::l))=some (bufC (x::l)):=fun H n=>bufC_fz (x::l)
  have e5:=bufC_ones (x::l)
  show EvQ Cx 73 [.sl (x::l).length (bufC (x::l))] (.sl (x::l).length (bufC (x::l)))
  generalize bufC (x::l)=cs at *
  rw[List.length_cons]at *
  generalize l.length=k at *
  refine evQ_of CxB73 ?_ (by simp[fn73]) ?_
  ·rfl
  ·simp(disch:=omega)only[go_sem,simprocAttr,nilEq,sameA,e1,e2,e3,e4,e5,maxLen]
theorem clone_msg{l:List Mg}(hl:l.length≤255):EvQ Cx 75 [.sl l.length (cells cM l)] (.sl l.length (cells cM l)):=by
 cases l with
 |nil =>
  exact evQ_ext rfl
 |cons x l =>
  have e1:=cM_len (x::l)
  have e2:=cM_take (x::l)
  have e3:=cM_nrm (x::l)
  have e4:∀ H n,mapO (freeze H (n+1)) (cells cM (x::l))=some (cells cM (x::l)):=fun H n=>cM_fz H n (x::l)
  have e5:=cM_ones (x::l)
  generalize cells cM (x::l)=cs at *
  rw[List.length_cons]at *
  generalize l.length=k at *
  refine evQ_of CxB75 ?_ (by simp[fn75]) ?_
  ·rfl
  ·simp(disch:=omega)only[go_sem,simprocAttr,nilEq,sameA,e1,e2,e3,e4,e5,maxLen]
theorem cK_ones:∀ l:List Pl.Core,ones (cells cK l)=true
 |[]=>rfl
 |x::l=>by
  simp only[cells,List.cons_append,List.nil_append,ones,one,Bool.true_and,cK_ones l]
theorem cC_ones:∀ l:List Ca,ones (cells cC l)=true
 |[]=>rfl
 |x::l=>by
  rw[cells]
  exact ones_app _ _ (cC_one x) (cC_ones l)
theorem clone_core{l:List Pl.Core}(h0:0<l.length)(h4:l.length≤4){H:Heap}:CallK Cx 72 [.sl l.length (cells cK l)] H fun y K=>y=.ref (H.length+1) 0 l.length 12∧K=H++[none,some ⟨99,cells cK l,false⟩]:=by
 have e1:=cK_len l
 have e2:(cells cK l).take (l.length*12)=cells cK l:=List.take_of_length_le (by omega)
 have e5:=cK_ones l
 generalize cells cK l=cs at *
 generalize l.length=k at *
 obtain⟨k,rfl⟩:∃ j,k=j+1:=⟨k-1,by omega⟩
 rw[callK_in CxB72 CxP72];refine⟨by simp[fn72],?_⟩
 simp(disch:=omega)only[go_sem,simprocAttr,nilEq,sameA,e1,e5,maxLen,endK_back]
theorem clone_cache{l:List Ca}(h0:0<l.length)(h4:l.length≤4){H:Heap}:CallK Cx 74 [.sl l.length (cells cC l)] H fun y K=>y=.ref (H.length+1) 0 l.length 160∧K=H++[none,some ⟨123,cells cC l,false⟩]:=by
 have e1:=cC_lens l
 have e2:(cells cC l).take (l.length*160)=cells cC l:=List.take_of_length_le (by omega)
 have e5:=cC_ones l
 generalize cells cC l=cs at *
 generalize l.length=k at *
 obtain⟨k,rfl⟩:∃ j,k=j+1:=⟨k-1,by omega⟩
 rw[callK_in CxB74 CxP74];refine⟨by simp[fn74],?_⟩
 simp(disch:=omega)only[go_sem,simprocAttr,nilEq,sameA,e1,e5,maxLen,List.flatten_cons,List.flatten_nil,endK_back]
section
variable{s:Sy}
theorem own_loop{K:Heap}{DD:List A}{b b2 jc:Nat}(hb0:K[b]?=some (some ⟨58,.ref jc 0 s.cores.length 12::DD,true⟩))(hj:K[jc]?=some (some ⟨99,cells cK s.cores,false⟩))(c4:s.cores.length≤4)(hb:∀ c∈s.cores,c.buf.length≤255){KK:List It}{Q:Ex→Ev.St→Prop}(hE:UnwK Cx (.out 0) KK ⟨[(12,Bo false),(1,.ptr b 0),(2,.ptr b2 0),(10,I64 s.cores.length),(11,I64 s.cores.length)],K⟩ Q) :
  ∀(d i:Nat),i+d=s.cores.length→RunK Cx (.code (.loop m36_l0)::KK) ⟨[(1,.ptr b 0),(2,.ptr b2 0),(10,I64 s.cores.length),(11,I64 i)],K⟩ Q:=by
 intro d
 induction d with
 |zero =>
  intro i hi
  obtain rfl:i=s.cores.length:=by omega
  rw[runK_loop]
  simp(disch:=omega)only[go_sem,simprocAttr,Int.lt_irrefl]
  exact hE
 |succ d ih =>
  intro i hi
  obtain⟨c,hc⟩:∃ c,s.cores[i]?=some c:=⟨_,List.getElem?_eq_getElem (by omega)⟩
  obtain⟨rr,hr⟩:=cells_at (c:=cK) (n:=12) (fun _=>rfl) hc
  have hC:=clone_store (hb c (List.mem_of_getElem? hc))
  have e1:=cK_len s.cores
  have hr9:List.drop (i*12+9) (cells cK s.cores)=bufA c.buf::Bo c.waits::Bo c.drain::rr:=by
   rw[← List.drop_drop,hr]
   rfl
  have nx:=ih (i+1) (by omega)
  rw[Int.natCast_add,Int.natCast_one]at nx
  rw[runK_loop]
  have hset:K.set jc (some ⟨99,List.take (i*12+9) (cells cK s.cores)++bufA c.buf::List.drop (i*12+9+1) (cells cK s.cores),false⟩)=K:=by
   have e:List.take (i*12+9) (cells cK s.cores)++bufA c.buf::List.drop (i*12+9+1) (cells cK s.cores)=cells cK s.cores:=by
    rw[← List.drop_drop (i:=1),hr9]
    conv=>rhs;rw[← List.take_append_drop (i*12+9) (cells cK s.cores),hr9]
    rfl
   rw[e]
   exact set_same hj
  simp(disch:=omega)only[go_sem,simprocAttr,hb0,hj,hr9,e1,QK.use hC,hset]
  rw[loop_norm (l:=[1,2,10,11]) rfl]
  simp(disch:=omega)only[go_sem,simprocAttr]
  exact nx
theorem own_ex(hs:s.Raw)(c0:0<s.cores.length)(c4:s.cores.length≤4)(k0:0<s.caches.length)(k4:s.caches.length≤4)(n64:s.net.length≤64)(hb:∀ c∈s.cores,c.buf.length≤255){H:Heap} :
  CallK Cx 36 [.agg (cSy s)] H fun y K=>∃ l jc jk,K=H++l∧y=.agg (cSy3 (.ref jc 0 s.cores.length 12) (.ref jk 0 s.caches.length 160) s (.sl s.net.length (cells cM s.net)))∧K[jc]?=some (some ⟨99,cells cK s.cores,false⟩)∧K[jk]?=some (some ⟨123,cells cC s.caches,false⟩):=by
 have h2:∃ DR,(∀ vc vk,cSy3 vc vk s (.sl s.net.length (cells cM s.net))=vc::vk::DR)∧DR.length=67∧ones DR=true∧List.drop 66 DR=[.sl s.net.length (cells cM s.net)]∧List.take 66 DR++[.sl s.net.length (cells cM s.net)]=DR :=
  ⟨s.dirs++[.sl s.net.length (cells cM s.net)],fun _ _=>rfl,rfl,ones_app _ _ (dirs_one s) rfl,rfl,rfl⟩
 obtain⟨DR,h2,d1,d2,d3,d4⟩:=h2
 have e0:cSy s=.sl s.cores.length (cells cK s.cores)::.sl s.caches.length (cells cC s.caches)::DR:=h2 _ _
 have tD:List.take 67 DR=DR:=List.take_of_length_le (by omega)
 have d5:List.drop 67 DR=[]:=List.drop_eq_nil_of_le (by omega)
 have hC:=clone_msg (l:=s.net) (by omega)
 rw[e0]
 simp only[h2]
 rw[callK_in CxB36 CxP36];refine⟨by simp[fn36],?_⟩
 simp(disch:=omega)only[go_sem,simprocAttr,d1,d2]
 refine passK_ex (clone_core c0 c4) ?_
 rintro y K ⟨rfl,rfl⟩
 simp(disch:=omega)only[go_sem,simprocAttr,d1]
 rw[loop_norm (l:=[1,2,10,11]) rfl]
 simp(disch:=omega)only[go_sem,simprocAttr]
 refine own_loop (jc:=H.length+2+1) (ap_getk' H _ 0) (ap_getk' H _ 3) c4 hb ?_ s.cores.length 0 (by omega)
 simp(disch:=omega)only[go_sem,simprocAttr,d1]
 refine passK_ex (clone_cache k0 k4) ?_
 rintro y K ⟨rfl,rfl⟩
 simp(disch:=omega)only[go_sem,simprocAttr,d1,d2,d3,d4,d5,tD,List.append_nil,QK.use hC,endK_back]
 exact⟨_,_,_,rfl,rfl,ap_getk' H _ 3,ap_getk' H _ 5⟩
end
end Go.Proofs.YtpdphobnchajbaaGreatDoor.Ev
namespace Go.Proofs.YtpdphobnchajbaaGreatDoor.Ev
open Go Go.RowKit
set_option maxRecDepth 100000
set_option maxHeartbeats 16000000
def zSy:Sy:=⟨[],[],fun _=>⟨0,0,0,0,false,0,0,⟨0,0,0,0⟩⟩,[]⟩
theorem r585S{w:Wo}{vc vk vn vm vd:A}{s:Sy}(ok:w.T.Ok):List.drop 585 (runC w vc vk s vn vm vd)=cSy3 vc vk s vn++[vm,vd]:=by
 obtain⟨c0,c1,c2,c3,c4,e⟩:=runC_eq w vc vk s vn vm vd
 have hl:=cT_size ok
 rw[e,show(585:Nat)=20+565 from rfl,← List.drop_drop]
 show List.drop 565 (cT9 w.T++_)=_
 rw[List.drop_left' hl]
 unfold cSy3
 simp only[List.cons_append,List.append_assoc,List.nil_append]
theorem eqL_map{α:Type}{f:α→A}(h:∀ x,eqA (f x) (f x)=true):∀ l:List α,eqL (l.map f) (l.map f)=true
 |[]=>rfl
 |x::l=>by
  rw[List.map_cons,eqL,h x,eqL_map h l]
  rfl
theorem ba_refl(x:ByteArray):(x==x)=true:=by
 show ByteArray.beq _ _=true
 unfold ByteArray.beq
 simp
theorem eqA_Sv(x:ByteArray):eqA (Sv x) (Sv x)=true:=by simp[eqA,eqV,ba_refl]
theorem eqA_ins(l:List Pl.Ins):eqA (insA l) (insA l)=true:=by
 have h:eqL (insC l) (insC l)=true:=by
  induction l with
  |nil=>rfl
  |cons x l ih =>
   show eqL (encI x++insC l) (encI x++insC l)=true
   exact eqL_app (by simp[encI,eqL,eqA,eqV]) ih
 simp[eqA,h]
mutual
theorem eqL_cCd:∀ x:Cd,eqL (cCd x) (cCd x)=true
 |.mk k t n v l=>by
  rw[cCd]
  simp[eqL,eqA,eqV,eqL_cCds l]
theorem eqL_cCds:∀ l:List Cd,eqL (cCds l) (cCds l)=true
 |[]=>by rw[cCds];rfl
 |x::l=>by
  rw[cCds]
  exact eqL_app (eqL_cCd x) (eqL_cCds l)
end
theorem eqL_cW(w:Wo):eqL (cW w) (cW w)=true:=by
 have e1:=eqL_map (f:=Sv) eqA_Sv w.P.locs
 have e2:=eqL_map (f:=fun n:Int=>I8 n) (fun n=>by simp[eqA,eqV]) w.P.init
 have e3:=eqL_map (f:=fun l=>insA l) eqA_ins w.P.threads
 have e4:=eqL_cCd w.P.cond
 have e5:eqL (cT9 w.T) (cT9 w.T)=true:=by
  unfold cT9
  rw[eqL,Bool.and_eq_true]
  exact⟨by simp[eqA,eqV,ba_refl],eqL_app (eqL_cells (fun x=>by simp[eqL,eqA,eqV]) _) (eqL_cells (fun x=>by simp[eqL,eqA,eqV]) _)⟩
 unfold cW cPg Pg.low Wo.gr
 refine eqL_app ?_ (eqL_app ?_ e5)
 ·refine eqL_app ?_ e4
  simp[eqL,eqA,eqV,ba_refl,e1,e2,e3]
 ·simp[eqL,eqA,eqV]
theorem cK_vs:∀ l:List Pl.Core,(cells cK l).all vs=true
 |[]=>rfl
 |x::l=>by
  simp only[cells,List.cons_append,List.nil_append,List.all_cons,vs,Bool.true_and,cK_vs l]
theorem cC_vs:∀ l:List Ca,(cells cC l).all vs=true
 |[]=>rfl
 |x::l=>by
  rw[cells,List.all_append,cC_vs l,Bool.and_true]
  unfold cC
  rfl
theorem cP_vs:∀ l:List Pf,(cells cP l).all vs=true
 |[]=>rfl
 |x::l=>by
  simp only[cells,List.cons_append,List.nil_append,List.all_cons,vs,Bool.true_and,cP_vs l]
theorem nrmL_app:∀{a b:List A},nrmL a=a→nrmL b=b→nrmL (a++b)=a++b
 |[],b,_,h=>h
 |x::a,b,h,h'=>by
  rw[nrmL,List.cons.injEq]at h
  rw[List.cons_append,nrmL,h.1,nrmL_app h.2 h']
theorem cK_nrm:∀ l:List Pl.Core,nrmL (cells cK l)=cells cK l
 |[]=>rfl
 |x::l=>by
  simp only[cells,List.cons_append,List.nil_append,nrmL,nrm,bufC_nrm,cK_nrm l]
theorem cC_nrm:∀ l:List Ca,nrmL (cells cC l)=cells cC l
 |[]=>rfl
 |x::l=>by
  rw[cells]
  refine nrmL_app ?_ (cC_nrm l)
  unfold cC
  rfl
theorem cP_nrm:∀ l:List Pf,nrmL (cells cP l)=cells cP l
 |[]=>rfl
 |x::l=>by
  simp only[cells,List.cons_append,List.nil_append,nrmL,nrm,cP_nrm l]
theorem dirs_nrm(s:Sy):nrmL s.dirs=s.dirs:=rfl
theorem cSy_nrm(s:Sy):nrmL (cSy s)=cSy s:=by
 unfold cSy cSy3
 simp only[nrmL,nrm,cK_nrm,cC_nrm]
 rw[nrmL_app (dirs_nrm s) (by simp only[nrmL,nrm,cM_nrm])]
theorem rows_fz{H:Heap}{el:TypeId}{sz n:Nat}{α:Type}{c:α→List A}{v:A}{l:List α}(h:RowV true el sz c H v l)(hl:(cells c l).length=l.length*sz)(hv:(cells c l).all vs=true):freeze H (n+2) v=some (.sl l.length (cells c l)):=by
 obtain⟨j,rfl,h2⟩:=h
 rw[fz_ref,h2]
 simp only[List.drop_zero,Nat.zero_add,hl,Nat.le_refl,if_true]
 rw[← hl,List.take_length,vs_fz H n _ hv]
 rfl
theorem rows_set{H:Heap}{el:TypeId}{sz:Nat}{α:Type}{c:α→List A}{v:A}{l:List α}(h:RowV true el sz c H v l){b:Nat}{e:TypeId}{cs:List A}{q:Bool}(hb:H[b]?=some (some ⟨e,cs,q⟩))(hn:Nat.beq e el=false)(X:Option Blk):RowV true el sz c (H.set b X) v l:=by
 obtain⟨j,h1,h2⟩:=h
 exact⟨j,h1,low_set h2 (ne_el hb h2 hn) X⟩
theorem done_set{H:Heap}{v:A}{l:List Pf}(h:DoneV H v l){b:Nat}{e:TypeId}{cs:List A}{q:Bool}(hb:H[b]?=some (some ⟨e,cs,q⟩))(hn:Nat.beq e 211=false)(X:Option Blk):DoneV (H.set b X) v l:=by
 rcases h with h|⟨j,h0,h1,h2⟩
 ·exact .inl h
 ·exact .inr ⟨j,h0,h1,low_set h2 (ne_el hb h2 hn) X⟩
theorem rows_one{H:Heap}{el:TypeId}{sz:Nat}{α:Type}{c:α→List A}{v:A}{l:List α}(h:RowV true el sz c H v l):one v=true:=by
 obtain⟨j,rfl,-⟩:=h
 rfl
theorem done_eq{H:Heap}{v:A}{l:List Pf}(h:DoneV H v l):eqA v v=true∧one v=true:=by
 rcases h with⟨-,rfl⟩|⟨j,h0,rfl,h2⟩
 ·exact⟨rfl,rfl⟩
 ·exact⟨by simp[eqA],rfl⟩
theorem sys_fz{H:Heap}{vc vk:A}{s:Sy}(h1:RowV true 99 12 cK H vc s.cores)(h2:RowV true 123 160 cC H vk s.caches):mapO (freeze H 18) (cSy3 vc vk s (.sl s.net.length (cells cM s.net)))=some (cSy s):=by
 have e3:mapO (freeze H 18) (s.dirs++[.sl s.net.length (cells cM s.net)])=some (s.dirs++[.sl s.net.length (cells cM s.net)]):=vs_fz H 17 _ (by rw[List.all_append];rfl)
 unfold cSy3
 rw[mapO_cons,mapO_cons,e3,rows_fz (n:=16) h1 (cK_len _) (cK_vs _),rows_fz (n:=16) h2 (cC_lens _) (cC_vs _)]
 rfl
theorem done_fz{H:Heap}{vd:A}{l:List Pf}(h:DoneV H vd l):∃ D,freeze H 19 vd=some D∧nrm D=.sl l.length (cells cP l):=by
 rcases h with⟨rfl,rfl⟩|⟨j,h0,rfl,h2⟩
 ·exact⟨_,fz_v,rfl⟩
 ·refine⟨.sl l.length (cells cP l),?_,by simp only[nrm,cP_nrm]⟩
  have hl:(cells cP l).length=l.length*7:=cells_len3 cP 7 (fun _=>rfl) l
  rw[fz_ref,h2]
  simp only[List.drop_zero,Nat.zero_add,hl,Nat.le_refl,if_true]
  rw[← hl,List.take_length,vs_fz H 17 _ (cP_vs l)]
  rfl
theorem cl3{vc vk vn:A}{s:Sy}:(cSy3 vc vk s vn).length=69:=rfl
section
variable{w:Wo}{s:Sy}{n:Nat}
theorem do_ex(W:w.Run n)(hs:s.Raw)(ts:s.Typ n)(n1:0<n)(hnl:s.net.length≤64)(hR:EvQ Cx 9 [.agg (cW w)] (Bo true))(hF:EvQ Cx 10 [.agg (cW w),.agg (cSy s)] (Bo true)){E:Sp→Int}(hE:∀ x:Sp,x.Ok→∀ [Kst] {ow:Bool} {rb mb:Nat} {vc vk vd:A} {H:Heap},Rn ow w s rb mb vc vk vd [] H→CallK Cx 31 [.ptr rb 0,eS x] H (StepR w n rb mb ow (E x) H)){x:Sp}(xo:x.Ok) :
  ∃ y,EvQ Cx 11 [.agg (cW w),.agg (cSy s),eS x] y∧∃ s' D e,y=.tup [.agg (cSy s'),D,I64 e]∧(e=0→s'.Typ n∧s'.net.length≤64)∧(e≠0→s'=zSy)∧(E x≠0→e=E x)∧(E x=0→e=0∨e=4)∧∃ d:List Pf,D=.sl d.length (cells cP d)∧d.length≤500:=by
 have h1:=cW_one w
 have hlen:=cW_len W.ok
 have z1:∀ H,mapO (freeze H 19) (cW w)=some (cW w):=fun H=>vs_fz H 18 _ (cW_vs w)
 have z2:=vs_shut _ (cW_vs w)
 have z3:∀ H,mapO (freeze H 19) (cSy s)=some (cSy s):=fun H=>vs_fz H 18 _ (cSy_vs s)
 have z4:=vs_shut _ (cSy_vs s)
 have o2:=@cSy_one s
 have l2:=@cSy_len s
 have tw:List.take 585 (cW w)=cW w:=List.take_of_length_le (by omega)
 have tS:List.take 69 (cSy s)=cSy s:=List.take_of_length_le (by omega)
 have n4:=W.n4
 have hO:∀{H:Heap},_:=fun {H:Heap}=>own_ex hs (by rw[ts.lc];exact n1) (by rw[ts.lc];exact n4) (by rw[ts.lk];exact n1) (by rw[ts.lk];exact n4) hnl (fun c hc=>(ts.core c hc).2) (H:=H)
 have hb:∀{H:Heap} (vc vk:A),one vc=true→one vk=true→_:=fun {H:Heap} vc vk o1 o2=>begin_ex (s:=s) (vc:=vc) (vk:=vk) W.ok o1 o2 (H:=H)
 have eW:=eqL_cW w
 generalize hW:cW w=WW at *
 generalize hS:cSy s=SS at *
 refine evG_of CxB11 rfl (by simp[fn11]) ?_
 simp(disch:=omega)only[go_sem,simprocAttr,h1,hlen,z1,z2,z3,z4,o2,l2,tw,tS,QK.use hR,QK.use hF]
 refine⟨eW,passK_ex hO ?_⟩
 rintro y K ⟨l,jc,jk,rfl,rfl,hjc,hjk⟩
 simp(disch:=omega)only[go_sem,simprocAttr,hlen,tw,eW]
 refine passK_ex (hb _ _ rfl rfl) ?_
 rintro y K ⟨l2',rb,mb,rfl,rfl,hr,hm⟩
 letI:Kst:=⟨3,cSy3 (.v (.slice none 0 0)) (.v (.slice none 0 0)) zSy (.v (.slice none 0 0))⟩
 have R:=Rn.mk (ow:=true) (done:=[]) hr hm ⟨jc,rfl,low_app hjc l2'⟩ ⟨jk,rfl,low_app hjk l2'⟩ (.inl ⟨rfl,rfl⟩) rfl
 simp(disch:=omega)only[go_sem,simprocAttr]
 refine passK_ex (hE x xo R) ?_
 rintro y K ⟨f,L,rfl,rfl,hA⟩
 by_cases q:E x=0
 case neg =>
  simp(disch:=omega)only[go_sem,simprocAttr]
  exact⟨zSy,_,E x,rfl,fun h=>absurd h q,fun _=>rfl,fun _=>rfl,fun h=>absurd h q,[],rfl,by simp⟩
 have hA:=hA q rfl
 rw[q]
 obtain⟨fid,caps,rfl,hC⟩:=hA []
 simp only[List.append_nil,List.append_assoc,List.cons_append]at hC
 simp(disch:=omega)only[go_sem,simprocAttr,anyK_call]
 refine passK_ex hC ?_
 rintro y K ⟨s',vc',vk',vd',done,R',ts',dok,dl⟩
 have wT:=W.ok.T
 have Hb:=R'.at_
 have kq:=R'.kq
 change K[3]?=some (some ⟨58,cSy3 (.v (.slice none 0 0)) (.v (.slice none 0 0)) zSy (.v (.slice none 0 0)),true⟩)at kq
 have nb:rb≠3:=ne_el Hb kq rfl
 have s0:∀ X,(K.set 3 X)[3]?=some X:=fun X=>set_at kq X
 have ln:=ts'.ln
 by_cases q5:s'.net.length≤64
 case neg =>
  simp(disch:=omega)only[go_sem,simprocAttr,Hb,r653 wT,kq,s0,cl3]
  refine⟨zSy,_,4,rfl,?_,?_,?_,?_,[],rfl,?_⟩<;>simp
 have gR:∀ X,(K.set 3 X)[rb]?=_:=fun X=>low_set Hb (Ne.symm nb) X
 have o3:ones (cSy3 vc' vk' s' (.sl s'.net.length (cells cM s'.net)))=true:=by
  unfold cSy3
  simp only[ones,rows_one R'.rc,rows_one R'.rk,Bool.true_and]
  exact ones_app _ _ (dirs_one s') rfl
 have fS:∀ X,mapO (freeze (K.set 3 X) 18) (cSy3 vc' vk' s' (.sl s'.net.length (cells cM s'.net)))=some (cSy s'):=fun X=>sys_fz (rows_set R'.rc kq rfl X) (rows_set R'.rk kq rfl X)
 have nS:=cSy_nrm s'
 obtain⟨D,hD,nD⟩:∃ D,(∀ X,freeze (K.set 3 X) 19 vd'=some D)∧nrm D=.sl done.length (cells cP done):=by
  obtain⟨D,hD,hn⟩:=done_fz (done_set R'.dn kq rfl none)
  refine⟨D,fun X=>?_,hn⟩
  rcases R'.dn with⟨-,rfl⟩|⟨j,h0,rfl,h2⟩
  ·rw[fz_v]at hD ⊢
   exact hD
  ·have e1:=fun X=>low_set h2 (ne_el kq h2 rfl) X
   rw[fz_ref,e1]at hD ⊢
   simp only[List.drop_zero]at hD ⊢
   rw[vs_fz _ 17 _ (by rw[List.all_eq_true];exact fun a h=>List.all_eq_true.1 (cP_vs done) a (List.mem_of_mem_take h))]at hD ⊢
   exact hD
 obtain⟨eD,oD⟩:=done_eq R'.dn
 have tk:∀ X,List.take 69 (cSy3 vc' vk' s' (.sl s'.net.length (cells cM s'.net))++X)=cSy3 vc' vk' s' (.sl s'.net.length (cells cM s'.net)):=fun X=>List.take_left' rfl
 have tk0:List.take 69 (cSy3 vc' vk' s' (.sl s'.net.length (cells cM s'.net)))=cSy3 vc' vk' s' (.sl s'.net.length (cells cM s'.net)):=rfl
 simp(disch:=omega)only[go_sem,simprocAttr,Hb,r585S wT,r653 wT,r655 wT,kq,s0,cl3,gR,o3,tk,fS,hD,eD,nS,nD]
 exact⟨s',_,0,rfl,fun _=>⟨ts',q5⟩,fun h=>absurd rfl h,fun h=>h.elim,fun _=>.inl rfl,done,rfl,dl⟩
end
end Go.Proofs.YtpdphobnchajbaaGreatDoor.Ev
namespace Go.Proofs.YtpdphobnchajbaaGreatDoor.Ev
open Go Go.RowKit
set_option maxRecDepth 100000
set_option maxHeartbeats 16000000
theorem okCds_mem:∀{l:List Cd},okCds l→∀ x∈l,okCd x
 |[],_,x,h=>by cases h
 |y::l,h,x,hx=>by
  rw[okCds]at h
  rcases List.mem_cons.1 hx with rfl|hx
  ·exact h.1
  ·exact okCds_mem h.2 x hx
theorem cCds_app:∀ a b:List Cd,cCds (a++b)=cCds a++cCds b
 |[],b=>by rw[cCds];rfl
 |x::a,b=>by rw[List.cons_append,cCds,cCds,cCds_app a b,List.append_assoc]
theorem cCds_take:∀(l:List Cd) (k:Nat),(cCds l).take (k*5)=cCds (l.take k)
 |[],k=>by simp[cCds]
 |x::l,0=>by simp[cCds]
 |x::l,k+1=>by
  have hl:=cCd_len x
  rw[List.take_succ_cons,cCds,cCds,← cCds_take l k,List.take_append,List.take_of_length_le (by omega),hl,show(k+1)*5-5=k*5 by omega]
theorem cCd_ones(x:Cd):ones (cCd x)=true:=by
 obtain⟨k,t,n,v,l,h⟩:=cond_cells x
 rw[h]
 rfl
theorem cCds_ones:∀ l:List Cd,ones (cCds l)=true
 |[]=>by rw[cCds];rfl
 |x::l=>by
  rw[cCds]
  exact ones_app _ _ (cCd_ones x) (cCds_ones l)
theorem scond_loop{bx:Option Blk}{KK:List It}{Q:Ex→Ev.St→Prop}(hE:∀(a b c d e f g h k:A) (i:Nat) (T:Heap) (q:List Cd) (j:Nat),q.length≤602→UnwK Cx (.out 0) KK ⟨[(18,a),(17,b),(16,c),(15,d),(14,e),(13,f),(12,g),(11,h),(10,k),(9,I64 i),(1,I64 301),(5,.ref (j+1) 0 q.length 5),(6,I64 i)],bx::T⟩ Q) :
  ∀(m i:Nat) (T:Heap) (q:List Cd) (j:Nat) (wq:Bool),i+m=302→T[j]?=some (some ⟨27,cCds q,wq⟩)→(∀ c∈q,okCd c)→q.length≤602 →
   RunK Cx (.code (.loop m57_l0)::KK) ⟨[(1,I64 301),(5,.ref (j+1) 0 q.length 5),(6,I64 i)],bx::T⟩ Q:=by
 intro m
 induction m with
 |zero =>
  intro i T q j wq hi hT hq hl
  rw[runK_loop]
  by_cases h1:i<q.length
  ·simp(disch:=omega)only[go_sem,simprocAttr]
   exact hE _ _ _ _ _ _ _ _ _ i T q j hl
  ·simp(disch:=omega)only[go_sem,simprocAttr]
   exact hE _ _ _ _ _ _ _ _ _ i T q j hl
 |succ m ih =>
  intro i T q j wq hi hT hq hl
  rw[runK_loop]
  by_cases h1:i<q.length
  case neg =>
   simp(disch:=omega)only[go_sem,simprocAttr]
   exact hE _ _ _ _ _ _ _ _ _ i T q j hl
  by_cases h2:q.length<301
  case neg =>
   simp(disch:=omega)only[go_sem,simprocAttr]
   exact hE _ _ _ _ _ _ _ _ _ i T q j hl
  obtain⟨c,hc⟩:∃ c,q[i]?=some c:=⟨_,List.getElem?_eq_getElem h1⟩
  obtain⟨r,hr⟩:=cCds_drop hc
  have oc:=hq c (List.mem_of_getElem? hc)
  obtain⟨k,t,n,v,l⟩:=c
  rw[okCd]at oc
  obtain⟨-,-,-,-,ll,ol⟩:=oc
  have ol:=okCds_mem ol
  rw[cCd]at hr
  have hr4:List.drop (i*5+4) (cCds q)=.sl l.length (cCds l)::r:=by
   rw[← List.drop_drop,hr]
   rfl
  have hjl:=(List.getElem?_eq_some_iff.1 hT).1
  have e1:=cCds_len q
  have e2:=cCds_len l
  have e4:=cCds_ones q
  have e5:(cCds q).take (q.length*5)=cCds q:=List.take_of_length_le (by omega)
  have row:∀(q':List Cd) ,(T.set j none++[some ⟨27,cCds q',false⟩])[T.length]?=some (some ⟨27,cCds q',false⟩):=fun q'=>as_getk T _ j none 0
  by_cases h3:l.length≤301
  ·have e3:=cCds_ones l
   have e6:(cCds l).take (l.length*5)=cCds l:=List.take_of_length_le (by omega)
   simp(disch:=omega)only[go_sem,simprocAttr,hT,hr4,e1,e2,e3,e5,e6]
   rw[← cCds_app]
   rw[loop_norm (l:=[1,5,6]) rfl]
   simp(disch:=omega)only[go_sem,simprocAttr]
   have nx:=ih (i+1) _ (q++l) T.length false (by omega) (row _) (fun c h=>(List.mem_append.1 h).elim (hq c) (ol c)) (by simp;omega)
   rw[Int.natCast_add,Int.natCast_one,List.length_append]at nx
   exact nx
  ·have e3:=cCds_ones (l.take 301)
   have e6:(cCds l).take 1505=cCds (l.take 301):=cCds_take l 301
   have e7:(cCds (l.take 301)).length=1505:=by rw[cCds_len];simp;omega
   have e8:(cCds (l.take 301)).take 1505=cCds (l.take 301):=List.take_of_length_le (by omega)
   simp(disch:=omega)only[go_sem,simprocAttr,hT,hr4,e1,e2,e3,e5,e6,e7]
   rw[← cCds_app]
   rw[loop_norm (l:=[1,5,6]) rfl]
   simp(disch:=omega)only[go_sem,simprocAttr]
   have nx:=ih (i+1) _ (q++l.take 301) T.length false (by omega) (row _) (fun c h=>(List.mem_append.1 h).elim (hq c) (fun h=>ol c (List.mem_of_mem_take h))) (by simp;omega)
   have el:(q++l.take 301).length=q.length+301:=by simp;omega
   rw[Int.natCast_add,Int.natCast_one,el]at nx
   exact nx
theorem scond_ex{x:Cd}(ox:okCd x):∃ y,EvQ Cx 57 [.agg (cCd x),I64 301] y∧∃ n:Nat,y=I64 n∧n≤301:=by
 have e1:=cCd_len x
 have e2:=cCd_ones x
 have e3:List.take 5 (cCd x)=cCd x:=List.take_of_length_le (by omega)
 have e4:cCd x=cCds [x]:=by rw[cCds,cCds];simp
 refine evG_of CxB57 rfl (by simp[fn57]) ?_
 generalize hc:cCd x=cs at *
 simp(disch:=omega)only[go_sem,simprocAttr,e1,e2,e3]
 rw[loop_norm (l:=[1,5,6]) rfl]
 simp(disch:=omega)only[go_sem,simprocAttr]
 refine scond_loop ?_ 302 0 _ [x] 0 true (by omega) (by rw[← e4];rfl) (by simpa using ox) (by simp)
 intro a b c d e f g h k i T q j hq
 by_cases h1:q.length≤301
 ·simp(disch:=omega)only[go_sem,simprocAttr]
  exact⟨_,rfl,h1⟩
 ·simp(disch:=omega)only[go_sem,simprocAttr]
  exact⟨301,rfl,by omega⟩
theorem thr_drop(l:List (List Pl.Ins)){i:Nat}(h:i<l.length):List.drop i (l.map fun x=>insA x)=insA l[i]::List.drop (i+1) (l.map fun x=>insA x):=drop_get (by simp[h])
theorem sprog_loop{ts:List (List Pl.Ins)}(hl:ts.length≤140737488351232)(hb:∀ l∈ts,l.length≤140737488351232){cs:List A}(d3:List.drop 3 cs=.sl ts.length (ts.map fun x=>insA x)::List.drop 4 cs){KK:List It}{Q:Ex→Ev.St→Prop}(hE:∀(a b c d e f g h k l l':A) (n:Nat),n≤1125899906842624→UnwK Cx (.out 0) KK ⟨[(27,a),(26,b),(25,c),(24,d),(23,e),(22,f),(21,g),(20,h),(19,k),(18,l),(1,I64 300),(2,.ptr 0 0),(5,I64 n),(6,l')],[some ⟨29,cs,true⟩]⟩ Q) :
  ∀(m i n:Nat),i+m=ts.length→n≤1125899906842624→RunK Cx (.code (.loop m27_l0)::KK) ⟨[(1,I64 300),(2,.ptr 0 0),(5,I64 n),(6,I64 i)],[some ⟨29,cs,true⟩]⟩ Q:=by
 intro m
 induction m with
 |zero =>
  intro i n hi hn
  obtain rfl:i=ts.length:=by omega
  rw[runK_loop]
  simp(disch:=omega)only[go_sem,simprocAttr,d3,Int.lt_irrefl]
  exact hE _ _ _ _ _ _ _ _ _ _ _ n hn
 |succ m ih =>
  intro i n hi hn
  rw[runK_loop]
  have ht:=thr_drop ts (i:=i) (by omega)
  have hb:=hb ts[i] (List.getElem_mem ..)
  by_cases q:n≤300
  ·generalize ts[i]=t at *
   simp(disch:=omega)only[go_sem,simprocAttr,d3,ht,Nat.mul_one]
   rw[loop_norm (l:=[1,2,5,6]) rfl]
   simp(disch:=omega)only[go_sem,simprocAttr]
   have nx:=ih (i+1) (n+t.length) (by omega) (by omega)
   simp only[Int.natCast_add,Int.natCast_one]at nx
   exact nx
  ·simp(disch:=omega)only[go_sem,simprocAttr,d3]
   exact hE _ _ _ _ _ _ _ _ _ _ _ n hn
theorem sprog_ex{P:Pg}(ok:P.Ok):∃ y,EvQ Cx 27 [.agg (cPg P),I64 300] y∧∃ n:Nat,y=I64 n∧n≤2251799813685248:=by
 obtain⟨k0,t0,n0,v0,l0,hc⟩:=cond_cells P.cond
 have hP:cPg P=[Sv P.name,.sl P.locs.length (P.locs.map Sv),.sl P.init.length (P.init.map fun n=>I8 n),.sl P.threads.length (P.threads.map fun l=>insA l),I8 P.ask]++cCd P.cond:=by
  unfold cPg Pg.low
  rfl
 obtain⟨_,hS,k,rfl,hk⟩:=scond_ex ok.cond
 have d1:List.drop 1 (cPg P)=.sl P.locs.length (P.locs.map Sv)::List.drop 2 (cPg P):=by rw[hP];rfl
 have d2:List.drop 2 (cPg P)=.sl P.init.length (P.init.map fun n=>I8 n)::List.drop 3 (cPg P):=by rw[hP];rfl
 have d3:List.drop 3 (cPg P)=.sl P.threads.length (P.threads.map fun l=>insA l)::List.drop 4 (cPg P):=by rw[hP];rfl
 have d5:List.drop 5 (cPg P)=cCd P.cond:=by rw[hP];rfl
 have l5:=cCd_len P.cond
 have t5:List.take 5 (cCd P.cond)=cCd P.cond:=List.take_of_length_le (by omega)
 have hl:(cPg P).length=10:=by rw[hP,List.length_append,l5];rfl
 have ho:ones (cPg P)=true:=by rw[hP];exact ones_app _ _ rfl (cCd_ones _)
 have t10:List.take 10 (cPg P)=cPg P:=List.take_of_length_le (by omega)
 have z1:∀ H,mapO (freeze H 19) (cCd P.cond)=some (cCd P.cond):=fun H=>by rw[hc];simp only[mapO_cons,fz_v,fz_sl];rfl
 have z2:shut.shutL (cCd P.cond)=true:=by rw[hc];rfl
 have b1:=ok.locs
 have b2:=ok.init
 have b3:=ok.threads
 generalize cPg P=cs at *
 refine evG_of CxB27 rfl (by simp[fn27]) ?_
 simp(disch:=omega)only[go_sem,simprocAttr,ho,d1,d2,d3]
 rw[loop_norm (l:=[1,2,5,6]) rfl]
 simp(disch:=omega)only[go_sem,simprocAttr]
 have fin:=sprog_loop (cs:=cs) b3 (fun l h=>(ok.thread l h).1) d3 (KK:=[.blk 0,.code (.seq (.reg [1,2,5] [⟨some 38,.move (.tmp 5),none⟩,⟨some 39,.fieldAddr 29 (.tmp 2) 5,none⟩,⟨some 40,.load 27 (.tmp 39),none⟩,⟨some 41,.move (.tmp 1),none⟩,⟨some 42,.binOp .add 3 (.tmp 41) (.const (.int .i64 1)) 3,none⟩,⟨some 43,.call ⟨.value (.func 57),#[(.tmp 40),(.tmp 42)],#[27,3]⟩,none⟩,⟨some 44,.binOp .add 3 (.tmp 38) (.tmp 43) 3,none⟩,⟨some 4,.assign (.tmp 44),none⟩] 0) .ret)]) (Q:=FinG Cx.T .shut [.tmp 4] fun y=>∃ n:Nat,y=I64 n∧n≤2251799813685248) (by
  intro a b c d e f g h k' l l' n hn
  simp(disch:=omega)only[go_sem,simprocAttr,d5,l5,t5,z1,z2,QK.use hS]
  exact⟨n+k,by rw[Int.natCast_add],by omega⟩) P.threads.length 0 (P.locs.length+P.init.length+P.threads.length) (by omega) (by omega)
 simp only[Int.natCast_add]at fin
 exact fin
theorem disabled_ev(e:Int):EvQ Cx 13 [I64 e] (Bo (dis e)):=by
 refine evQ_of CxB13 rfl (by simp[fn13]) ?_
 unfold dis
 by_cases h1:e=312
 ·subst h1
  simp(disch:=omega)only[go_sem,simprocAttr]
 by_cases h2:e=6
 ·subst h2
  simp(disch:=omega)only[go_sem,simprocAttr]
 by_cases h3:e=272
 ·subst h3
  simp(disch:=omega)only[go_sem,simprocAttr]
 rw[decide_eq_false h1,decide_eq_false h2,decide_eq_false h3]
 simp(disch:=omega)only[go_sem,simprocAttr,beq_no h1,beq_no h2,beq_no h3]
theorem sp_eqT(a b:Sp):eqT Cx.T 20 62 (cS a) (cS b)=some (a.eqB b):=by
 unfold Sp.eqB
 by_cases h0:a.kind=b.kind
 case neg =>
  rw[decide_eq_false (fun h=>h0 h.1)]
  simp(disch:=omega)only[go_sem,simprocAttr,beq_no h0]
 by_cases h1:a.node=b.node
 case neg =>
  rw[decide_eq_false (fun h=>h1 h.2.1)]
  simp(disch:=omega)only[go_sem,simprocAttr,h0,beq_no h1]
 by_cases h2:a.line=b.line
 case neg =>
  rw[decide_eq_false (fun h=>h2 h.2.2)]
  simp(disch:=omega)only[go_sem,simprocAttr,h0,h1,beq_no h2]
 rw[decide_eq_true ⟨h0,h1,h2⟩]
 simp(disch:=omega)only[go_sem,simprocAttr,h0,h1,h2]
 rw[Bool.eq_iff_iff]
 unfold Mg.eqB
 simp
theorem listed_ev{l:List Sp}(hl:l.length≤1000)(x:Sp):EvQ Cx 12 [.sl l.length (cells cS l),eS x] (Bo (l.any fun y=>y.eqB x)):=by
 have loop:∀(d j:Nat),j+d=l.length→RunK Cx [.code (.loop m12_l0),.blk 0,.code (.seq (.reg [] [⟨some 4,.assign (.const (.bool false)),none⟩] 0) .ret)] ⟨[(0,.sl l.length (cells cS l)),(3,.ptr 0 0),(5,I64 j)],[some ⟨62,cS x,true⟩]⟩ (FinQ Cx.T .shut [.tmp 4] (Bo ((l.drop j).any fun y=>y.eqB x))):=by
  intro d
  induction d with
  |zero =>
   intro j hj
   obtain rfl:j=l.length:=by omega
   rw[List.drop_length]
   rw[runK_loop]
   simp(disch:=omega)only[go_sem,simprocAttr,Int.lt_irrefl,List.any_nil]
  |succ d ih =>
   intro j hj
   obtain⟨y,hy⟩:∃ y,l[j]?=some y:=⟨_,List.getElem?_eq_getElem (by omega)⟩
   have hd:l.drop j=y::l.drop (j+1):=drop_get hy
   obtain⟨rr,hr⟩:=cells_at (c:=cS) (n:=14) (fun _=>rfl) hy
   have nx:=ih (j+1) (by omega)
   rw[Int.natCast_add,Int.natCast_one]at nx
   have he:=sp_eqT y x
   simp only[cS]at he
   rw[hd,List.any_cons]
   rw[runK_loop]
   cases hb:y.eqB x with
   |true =>
    rw[hb]at he
    simp(disch:=omega)only[↓ he,go_sem,simprocAttr,hr]
   |false =>
    rw[hb]at he
    simp(disch:=omega)only[↓ he,go_sem,simprocAttr,hr]
    rw[loop_norm (l:=[0,3,5]) rfl]
    simp(disch:=omega)only[go_sem,simprocAttr]
    exact nx
 refine evQ_of CxB12 rfl (by simp[fn12]) ?_
 simp(disch:=omega)only[go_sem,simprocAttr]
 rw[loop_norm (l:=[0,3,5]) rfl]
 simp(disch:=omega)only[go_sem,simprocAttr]
 have:=loop l.length 0 (by omega)
 rw[List.drop_zero]at this
 exact this
theorem large_loop{s:Sy}{WW SS:List A}(s0:SS[0]?=some (.sl s.cores.length (cells cK s.cores)))(l2:SS.length=69)(hl:s.cores.length≤140737488351232)(hb:∀ c∈s.cores,c.buf.length≤140737488351232){KK:List It}{Q:Ex→Ev.St→Prop}(hE:∀(a b c d e f g h k:A) (n i:Nat),n≤72057594037927936→UnwK Cx (.out 0) KK ⟨[(26,a),(25,b),(24,c),(23,d),(22,e),(21,f),(20,g),(19,h),(18,k),(2,.ptr 0 0),(3,.ptr 1 0),(5,I64 n),(6,I64 i)],[some ⟨44,WW,true⟩,some ⟨58,SS,true⟩]⟩ Q) :
  ∀(m i n:Nat),i+m=300→n≤422212465053696+140737488351232*i→RunK Cx (.code (.loop m7_l0)::KK) ⟨[(2,.ptr 0 0),(3,.ptr 1 0),(5,I64 n),(6,I64 i)],[some ⟨44,WW,true⟩,some ⟨58,SS,true⟩]⟩ Q:=by
 intro m
 induction m with
 |zero =>
  intro i n hi hn
  obtain rfl:i=300:=by omega
  rw[runK_loop]
  by_cases q:300<s.cores.length
  ·simp(disch:=omega)only[go_sem,simprocAttr,s0,l2]
   exact hE _ _ _ _ _ _ _ _ _ n 300 (by omega)
  ·simp(disch:=omega)only[go_sem,simprocAttr,s0,l2]
   exact hE _ _ _ _ _ _ _ _ _ n 300 (by omega)
 |succ m ih =>
  intro i n hi hn
  rw[runK_loop]
  by_cases q:i<s.cores.length
  case neg =>
   simp(disch:=omega)only[go_sem,simprocAttr,s0,l2]
   exact hE _ _ _ _ _ _ _ _ _ n i (by omega)
  obtain⟨c,hc⟩:∃ c,s.cores[i]?=some c:=⟨_,List.getElem?_eq_getElem q⟩
  obtain⟨rr,hr⟩:=cells_at (c:=cK) (n:=12) (fun _=>rfl) hc
  have hbc:=hb c (List.mem_of_getElem? hc)
  simp(disch:=omega)only[go_sem,simprocAttr,s0,l2,hr]
  rw[loop_norm (l:=[2,3,5,6]) rfl]
  simp(disch:=omega)only[go_sem,simprocAttr]
  have nx:=ih (i+1) (n+c.buf.length) (by omega) (by omega)
  simp only[Int.natCast_add,Int.natCast_one]at nx
  exact nx
theorem large_ex{w:Wo}{s:Sy}(wo:w.Ok)(hs:s.Raw):∃ y,EvQ Cx 7 [.agg (cW w),.agg (cSy s)] y∧∃ b,y=Bo b:=by
 have h1:=cW_one w
 have hlen:=cW_len wo
 have s0:=@s0 s
 have s1:=@s1 s
 have s68:=@s68 s
 have o2:=@cSy_one s
 have l2:=@cSy_len s
 have tw:List.take 585 (cW w)=cW w:=List.take_of_length_le (by omega)
 have tS:List.take 69 (cSy s)=cSy s:=List.take_of_length_le (by omega)
 have l0:=hs.lc
 have l1:=hs.lk
 have l3:=hs.ln
 obtain⟨_,hP,k,rfl,hk⟩:=sprog_ex wo.P
 have lP:(cPg w.P).length=10:=cPg_len w.P
 have tP:List.take 10 (cW w)=cPg w.P:=by
  unfold cW
  exact List.take_left' lP
 have z1:∀ H,mapO (freeze H 19) (cPg w.P)=some (cPg w.P):=fun H=>by
  have:=cW_vs w
  unfold cW at this
  rw[List.all_append,Bool.and_eq_true]at this
  exact vs_fz H 18 _ this.1
 have z2:shut.shutL (cPg w.P)=true:=by
  have:=cW_vs w
  unfold cW at this
  rw[List.all_append,Bool.and_eq_true]at this
  exact vs_shut _ this.1
 generalize cPg w.P=PP at *
 generalize cW w=WW at *
 generalize cSy s=SS at *
 refine evG_of CxB7 rfl (by simp[fn7]) ?_
 simp(disch:=omega)only[go_sem,simprocAttr,h1,s0,s1,s68,o2,l2]
 rw[loop_norm (l:=[2,3,5,6]) rfl]
 simp(disch:=omega)only[go_sem,simprocAttr]
 rw[show(s.cores.length:Int)+s.caches.length+s.net.length=((s.cores.length+s.caches.length+s.net.length:Nat):Int)by simp]
 refine large_loop s0 l2 l0 (fun c h=>(hs.core c h).2) ?_ 300 0 _ (by omega) (by omega)
 intro a b c d e f g h k' n i hn
 by_cases q:300<n
 ·simp(disch:=omega)only[go_sem,simprocAttr]
  exact⟨_,rfl⟩
 ·simp(disch:=omega)only[go_sem,simprocAttr,hlen,tP,z1,z2,QK.use hP]
  exact⟨_,rfl⟩
end Go.Proofs.YtpdphobnchajbaaGreatDoor.Ev
