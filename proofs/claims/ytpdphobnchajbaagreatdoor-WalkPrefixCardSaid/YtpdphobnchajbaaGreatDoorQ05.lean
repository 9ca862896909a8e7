/- tags.agrees calls its property under a deferred recover. -/
import Derived.Test.YtpdphobnchajbaaGreatDoorQ04
import Derived.Test.YtpdphobnchajbaaGreatDoorQ03
set_option linter.unusedSimpArgs false
set_option linter.unusedVariables false
namespace Go.Proofs.YtpdphobnchajbaaGreatDoor.Ev
open Go Go.RowKit
theorem bAP(p:Addr)(w:World):CallsDIn (Wd none) 0 Tryz.prog 286 #[.pointer (some p)] .returning w fun e u' w'=>e=.returned (.tuple #[])∧u'=.returning∧w'=w:=by
 refine callsDIn_of_wpSIn Tryz.func286 rfl (Wd.fn _ _) fun c₀ cs hu=>?_
 apply wpSIn_seq
 apply wpSIn_region
 have hnil:∀ w:World,(binOp BinOp.neq 20 .nilIface .nilIface).run Tryz.prog w=.ok (.bool false) w:=fun _=>by kernel_rfl
 simp[wpOpsSIn,go_sem,recoverD,hu,Tryz.ntmps286,Exit.thenS,hnil]
 refine wpSIn_cond (t:=false) (by simp[Act.eval,Array.replicate]) ?_
 simp only[Bool.false_eq_true,if_false]
 refine wpSIn_of_wpIn rfl (wpIn_skip ?_)
 cases c₀
 simp_all [bodyPostS,results,Tryz.results286]
def ZM:List Nat:=[0,1,2,3,4,5,6,7,8]
def aDg:M:=.reg ZM [⟨some 3,.box 114 (.tmp 1),none⟩,⟨some 4,.alloc 4,none⟩] 0
def aAy:M:=.reg ZM [⟨some 6,.move (.tmp 0),none⟩,⟨some 7,.load 114 (.tmp 3),none⟩,⟨some 8,.call ⟨.value (.tmp 6),#[.tmp 7],#[114]⟩,none⟩,⟨none,.store 4 (.tmp 4) (.tmp 8),none⟩] 0
def HB:Code→Code
 |.seq a _=>a
 |c=>c
def ID:Code→Code
 |.seq _ b=>b
 |c=>c
noncomputable def cAg:Code:=Tryz.f225.body.getD .skip
noncomputable def oAg:Array Oper:=match HB (ID cAg)with
 |.region _ ops _=>ops
 |_=>#[]
theorem aDh:Tryz.f225.body=some cAg:=rfl
theorem aDW:mX Tryz.prog 225:=by
 intro args w
 have h5:¬ Tryz.f225.name= "runtime.NumGoroutine":=by decide
 simp[callFunc,Tryz.func225,h5,aDh]
theorem aQH:cAg=.seq (HB cAg) (.seq (.region 1 oAg false) (.seq (HB (ID (ID cAg))) .ret)):=by kernel_rfl
theorem a5G:cmp 9 (fun _=>ZM) (HB cAg)=aDg:=by kernel_rfl
theorem bBv:cmp 9 (fun _=>ZM) (HB (ID (ID cAg)))=aAy:=by kernel_rfl
def iY(C:Ctx)(N:Nat)(zs:List A)(H:aG):Option (A×aG) :=
 match bH C.T (bA C N) (bA.callO C N) N aDg ⟨iR 0 zs,H⟩with
 |some (.go,s1)=>match cI s1.env 4,cI s1.env 5 with
  |some (.ptr _ 0),none=>match bH C.T (bA C N) (bA.callO C N) N aAy s1 with
   |some (.go,s2)=>match dF C.T s2 [.cell 4 4]with
    |some x=>bif Nat.ble zs.length 9 then some (x,s2.H)else none
    |none=>none
   |_=>none
  |_,_=>none
 |_=>none
theorem P5{C:Ctx}(hC:kG Tryz.prog C){N:Nat}{zs:List A}{H H':aG}{x:A}(h:iY C N zs H=some (x,H')):q8 C.T Tryz.prog 225 zs H x H':=by
 obtain⟨hQ,hO⟩:=jB hC N
 refine .inr ⟨aDW,fun c ys hH ok hr=>?_⟩
 unfold iY at h
 split at h
 ·rename_i s1 h0
  split at h
  ·rename_i b hp hn
   split at h
   ·rename_i s2 h2
    split at h
    ·rename_i x' hres
     cases hlen:Nat.ble zs.length 9 with
     |false=>simp[hlen]at h
     |true =>
      simp only[hlen,cond_true,Option.some.injEq,Prod.mk.injEq]at h
      obtain⟨rfl,rfl⟩:=h
      have hlen:=Nat.le_of_ble_eq_true hlen
      have hl:=hr.length
      have henv:cF c (iR 0 zs) { tmps:=ys.toArray++Array.replicate (Tryz.f225.ntmps-ys.toArray.size) undef,defers:=[] }:=by
       intro t z hz
       obtain⟨-,hz'⟩:=qO zs 0 t z hz
       obtain⟨y,hy,hzr⟩:=hr.get (t-0) z hz'
       have hy':(ys.toArray++Array.replicate (Tryz.f225.ntmps-ys.toArray.size) undef)[t]?=some y:=by
        rw[Array.getElem?_append_left (by simpa using (List.getElem?_eq_some_iff.1 hy).1)]
        simpa using hy
       simp only[Array.getD_eq_getD_getElem?,hy',Option.getD_some]
       exact hzr
      have hsz:(ys.toArray++Array.replicate (Tryz.f225.ntmps-ys.toArray.size) undef).size=9:=by
       rw[Tryz.ntmps225]
       simp
       omega
      refine(callsIn_wide (n:=0)).1 (callsIn_of_wp_marks (fn:=Tryz.f225) (c:=cAg) Tryz.func225 aDh trivial ?_)
      have hwd:Fence.wide=Wd none:=rfl
      rw[hwd,aQH]
      refine wpIn_seq (mQ hC.mixed hC.types hC.loops hQ hO N _ _ _ _ (by rw[a5G];exact h0) c _ _ hH ok henv hsz (fun l hl=>by cases hl) ?_)
      intro a1 c1 ds1 k1 k2 k3 k4 k5 k6 k7
      refine wpIn_seq ?_
      obtain⟨q1,q2,ho,e1,e2,e3,e4,e5,e6⟩:∃ q1 q2:Oper,oAg=#[q1,q2]∧q1.op=.makeFunc (.func 286) #[] #[.tmp 4]∧q1.dst=some 5∧q1.guard=none∧q2.op=.defer { callee:=.value (.tmp 5),args:=#[],argTypes:=#[] }∧q2.dst=none∧q2.guard=none:=⟨_,_,rfl,rfl,rfl,rfl,rfl,rfl,rfl⟩
      rw[ho]
      refine wpIn_region_list ?_
      have hp4:=k4 4 _ hp
      rw[R]at hp4
      obtain⟨g,hg,hpv,-⟩:=hp4
      refine wpListIn_plain e3 fun K hK=>?_
      have hr1:(execOp a1.eval q1).run Tryz.prog c1.w=.ok (.value (.func (.func 286) #[] #[.pointer (some ⟨g,0,none⟩)])) c1.w:=by
       simp only[execOp,e1]
       simp[Instr.makeFunc,Act.eval,hpv]
      have hs1:q1.semAt (Wd none).round a1.eval=execOp a1.eval q1:=by
       unfold Oper.semAt
       rw[e1]
       rfl
      refine⟨fun f _=>Wd.fn _ f,?_⟩
      rw[hs1,hr1]
      show K (a1.put q1.dst _) c1.w
      refine hK _ _ ?_
      refine wpListIn_plain e6 fun K2 hK2=>?_
      rw[e2]
      have ha5:(a1.put (some 5) (.func (.func 286) #[] #[.pointer (some ⟨g,0,none⟩)])).eval (.tmp 5)=.func (.func 286) #[] #[.pointer (some ⟨g,0,none⟩)]:=by
       simp[Act.put,Act.eval,k5]
      have hr2:(execOp (a1.put (some 5) (.func (.func 286) #[] #[.pointer (some ⟨g,0,none⟩)])).eval q2).run Tryz.prog c1.w=.ok (.defer { target:=.fn (.func 286) #[.pointer (some ⟨g,0,none⟩)],args:=#[] }) c1.w:=by
       simp only[execOp,e4,resolve,ha5]
       simp[Deferred.ofValue]
      have hs2:q2.semAt (Wd none).round (a1.put (some 5) (.func (.func 286) #[] #[.pointer (some ⟨g,0,none⟩)])).eval=execOp (a1.put (some 5) (.func (.func 286) #[] #[.pointer (some ⟨g,0,none⟩)])).eval q2:=by
       unfold Oper.semAt
       rw[e4]
       rfl
      refine⟨fun f _=>Wd.fn _ f,?_⟩
      rw[hs2,hr2]
      refine hK2 _ _ (wpListIn_nil ?_)
      have k4':cF c1 s1.env (({ a1.put (some 5) (.func (.func 286) #[] #[.pointer (some ⟨g,0,none⟩)])with defers:={ target:=.fn (.func 286) #[.pointer (some ⟨g,0,none⟩)],args:=#[] }::a1.defers }:Act).put q2.dst undef):=by
       intro t z hz
       have hne:t≠5:=by
        rintro rfl
        rw[hn]at hz
        cases hz
       have:=k4 t z hz
       rw[e5]
       simpa[Act.put,Array.getD_eq_getD_getElem?,Array.getElem?_setIfInBounds_ne (Ne.symm hne)]using this
      refine wpIn_seq (mQ hC.mixed hC.types hC.loops hQ hO N _ _ _ _ (by rw[bBv];exact h2) c1 _ _ k1 k3 k4' (by rw[e5];simp[Act.put,k5]) (fun l hl=>by cases hl) ?_)
      intro a2 c2 ds2 j1 j2 j3 j4 j5 j6 j7
      refine wpIn_ret ?_
      show LeavesInM (Wd none) 0 Tryz.prog Tryz.f225 a2.tmps _ a2.defers .returning c2.w
      have hd:(({ a1.put (some 5) (.func (.func 286) #[] #[.pointer (some ⟨g,0,none⟩)])with defers:={ target:=.fn (.func 286) #[.pointer (some ⟨g,0,none⟩)],args:=#[] }::a1.defers }:Act).put q2.dst undef).defers={ target:=.fn (.func 286) #[.pointer (some ⟨g,0,none⟩)],args:=#[] }::ds1:=by
       rw[e5]
       show _::a1.defers=_
       rw[k6]
       simp
      have hm12:f7 c c2 (ds2++ds1):=k7.app k2 j2 j7
      have hl:=wS (P:=Tryz.prog) (fn:=Tryz.f225) (fc:=286) (cap:=#[.pointer (some ⟨g,0,none⟩)]) (args:=#[]) hC.types (fun w=>by simp[invoke]) (fun w=>by simpa using bAP ⟨g,0,none⟩ w) (k2.trans j2) hres hm12 j3 j1 j4
      have j6':a2.defers=ds2++{ target:=.fn (.func 286) #[.pointer (some ⟨g,0,none⟩)],args:=#[] }::ds1:=by rw[j6];exact congrArg (ds2++·) hd
      rw[j6']
      exact hl
    ·cases h
   ·cases h
  ·cases h
 ·cases h
theorem AO{C:Ctx}{N N':Nat}(hn:N≤N'){zs:List A}{H:aG}{r:A×aG}(h:iY C N zs H=some r):iY C N' zs H=some r:=by
 unfold iY at h
 split at h
 ·rename_i s1 h0
  split at h
  ·rename_i b hp hq
   split at h
   ·rename_i s2 h2
    unfold iY
    have h0':=fF C hn (m:=aDg) h0
    have h2':=fF C hn (m:=aAy) h2
    unfold eR at h0' h2'
    rw[h0']
    simp only[hp,hq]
    rw[h2']
    exact h
   ·cases h
  ·cases h
 ·cases h
open Classical in
noncomputable def qR(C:Ctx)(zs:List A)(H:aG):Option (A×aG):=if h:∃ r N,iY C N zs H=some r then some (Classical.choose h)else none
theorem PB{C:Ctx}{N:Nat}{zs:List A}{H:aG}{r:A×aG}(h:iY C N zs H=some r):qR C zs H=some r:=by
 have hx:∃ r N,iY C N zs H=some r:=⟨r,N,h⟩
 unfold qR
 rw[dif_pos hx]
 obtain⟨N',h'⟩:=Classical.choose_spec hx
 have h1:=AO (Nat.le_max_left N N') h
 have h2:=AO (Nat.le_max_right N N') h'
 rw[h1]at h2
 exact h2.symm
theorem YF{C:Ctx}(hC:kG Tryz.prog C){zs:List A}{H H':aG}{x:A}(h:qR C zs H=some (x,H')):q8 C.T Tryz.prog 225 zs H x H':=by
 unfold qR at h
 split at h
 ·rename_i hx
  obtain⟨N,h'⟩:=Classical.choose_spec hx
  rw[Option.some.inj h]at h'
  exact P5 hC h'
 ·cases h
end Go.Proofs.YtpdphobnchajbaaGreatDoor.Ev
namespace Go.Proofs.YtpdphobnchajbaaGreatDoor
open Go Go.RowKit Go.Proofs.YtpdphobnchajbaaGreatDoor.Ev
open Go.ChangeShapes Go.WideShapes Go.ChangeAt
section
variable{H:Type}{enc:TypeId×Value→H}{P:Program}{w:World}{base:Nat}{spare:Nat→Bool}{held:Bool}
def fX(w:World)(F:List A→Prop)(cs:List Value):Prop:=∃ l,F l∧RL [] (fun _=>False) w l cs
theorem fX.mono{F G:List A→Prop}{cs:List Value}(h:fX w F cs)(hg:∀ l,F l→G l):fX w G cs:=by
 obtain⟨l,h1,h2⟩:=h
 exact⟨l,hg l h1,h2⟩
theorem iG.pred{ks:List Sh}{cs:List Value}{F:List A→Prop}(h:iG w ks cs)(hF:∀ l,dQ ks l→F l):fX w F cs:=by
 obtain⟨l,h1,h2⟩:=h
 exact⟨l,hF l h1,h2⟩
def X5:List (List A→Prop)→List A→Prop
 |[],l=>l=[]
 |p::ps,l=>∃ a b,l=a++b∧p a∧X5 ps b
theorem uJ{F:List A→Prop}{sz:Nat}{ad:Addr}(ha:0<sz):∀(len:Nat),(∀ i,i<len→∃ cs,w.cells? base (ad.add (i*sz)) sz=some cs∧fX w F cs) →
  ∃(l:List (List A)) (xs:List Value),l.length=len∧(∀ c∈l,F c)∧RL [] (fun _=>False) w l.flatten xs∧xs.length=len*sz∧∀ i,i<len*sz→w.cell? ((ad.add (i/sz*sz)).add (i % sz))=xs[i]?
 |0,_=>⟨[],[],rfl,by simp,RL.nil,by simp,by simp⟩
 |len+1,h=>by
  obtain⟨l,xs,h1,h2,h3,h4,h5⟩:=uJ ha len fun i hi=>h i (by omega)
  obtain⟨cs,h6,c,h7,h8⟩:=h len (by omega)
  obtain⟨h9,h10⟩:=CP h6
  refine⟨l++[c],xs++cs,by simp[h1],?_,?_,?_,?_⟩
  ·intro d hd
   rcases List.mem_append.1 hd with hd|hd
   ·exact h2 d hd
   ·rw[List.mem_singleton.1 hd];exact h7
  ·rw[List.flatten_append]
   simpa using RL.append h3 h8
  ·simp[h4,h9,Nat.add_mul]
  ·intro i hi
   rcases Nat.lt_or_ge i (len*sz)with hlt|hge
   ·rw[h5 i hlt,List.getElem?_append_left (by omega)]
   ·have e1:i/sz=len:=by
     rw[Nat.add_mul]at hi
     apply Nat.div_eq_of_lt_le
     ·exact hge
     ·rw[Nat.add_mul];omega
    have e2:i % sz=i-len*sz:=by
     have:=Nat.div_add_mod i sz
     rw[e1,Nat.mul_comm]at this
     omega
    rw[e1,e2,h10 _ (by rw[Nat.add_mul]at hi;omega),List.getElem?_append_right (by omega),h4]
theorem EG{F:List A→Prop}{e t:TypeId}(ht:P.underlying t=some (.slice e))(hsz0:Nat.ble 1 (P.cellsOf e)=true)(hbytes0:Nat.ble 1 (P.bytesOf e)=true){fuel:Nat}{cs:List Value}{x:DataW H×List MemPlace}(hx:DataW.trod enc P w base spare held fuel t cs=some x)(hlight:jM P t x.1)
  (ih:∀ n,n<fuel→∀(cs:List Value) (x:DataW H×List MemPlace),DataW.trod enc P w base spare held n e cs=some x→jM P e x.1→fX w F cs) :
  fX w (fun l=>∃ ls:List (List A),l=[.sl ls.length ls.flatten]∧ls.length≤reachBytes∧∀ c∈ls,F c) cs:=by
 have hsz:0<P.cellsOf e:=Nat.le_of_ble_eq_true hsz0
 have hbytes:0<P.bytesOf e:=Nat.le_of_ble_eq_true hbytes0
 have fin:∀(l:List (List A)) (v:Value),l.length≤reachBytes→(∀ c∈l,F c)→R [] (fun _=>False) w (.sl l.length l.flatten) v→fX w (fun l=>∃ ls:List (List A),l=[.sl ls.length ls.flatten]∧ls.length≤reachBytes∧∀ c∈ls,F c) [v]:=fun l v h1 h2 h3 =>
  ⟨[.sl l.length l.flatten],⟨l,rfl,h1,h2⟩,RL.cons h3 RL.nil⟩
 rcases DataW.trod_slice ht hx with⟨rfl,-⟩|⟨ad,len,cap,elems,rest,n,rfl,rfl,hxd,hb,hl,hc,hel,hall,-⟩
 ·refine fin [] _ (Nat.zero_le _) (by simp) ?_
  rw[R]
  exact .inl ⟨rfl,rfl,_,_,rfl⟩
 ·have hroom:len≤reachBytes:=by
   have:=hlight ((elems.length+rest.length)*P.bytesOf e) (by simp[hxd,DataW.weights,ht])
   have h2:(elems.length+rest.length)*1≤(elems.length+rest.length)*P.bytesOf e:=Nat.mul_le_mul_left _ hbytes
   omega
  have hel':∀ i,i<len→∀ y,elems[i]?=some y→jM P e y.1:=fun i hi y hy k hk=>by
   refine hlight k ?_
   simp only[hxd,DataW.weights,ht]
   refine List.mem_cons_of_mem _ (List.mem_append_left _ (i7 (j:=i) (d:=y.1) ?_ k hk))
   rw[List.getElem?_map,hy]
   rfl
  have hele:∀ i,i<len→∃ cs,w.cells? base (ad.add (i*P.cellsOf e)) (P.cellsOf e)=some cs∧fX w F cs:=fun i hi=>by
   obtain⟨y,hy⟩:∃ y,elems[i]?=some y:=⟨_,List.getElem?_eq_getElem (by omega)⟩
   have h1:=(hall i hi).trans hy
   obtain⟨cs,h2,h3⟩:=Option.bind_eq_some_iff.1 h1
   exact⟨cs,h2,ih n (by omega) cs _ h3 (hel' i hi y hy)⟩
  obtain⟨l,xs,h1,h2,h3,h4,h5⟩:=uJ hsz len hele
  refine fin l _ (by omega) h2 ?_
  rw[R]
  rcases Nat.eq_zero_or_pos len with rfl|hpos
  ·left
   have hl0:=List.eq_nil_of_length_eq_zero h1
   subst hl0
   exact⟨rfl,rfl,_,_,rfl⟩
  ·right
   have h0:=h5 0 (Nat.mul_pos hpos hsz)
   have hx0:∃ y,xs[0]?=some y:=⟨_,List.getElem?_eq_getElem (by rw[h4];exact Nat.mul_pos hpos hsz)⟩
   obtain⟨y0,hx0⟩:=hx0
   rw[hx0]at h0
   have had:(ad.add (0/P.cellsOf e*P.cellsOf e)).add (0 % P.cellsOf e)=ad:=by simp[Addr.add]
   rw[had]at h0
   have hsp:ad.spot=none:=by
    unfold World.cell? at h0
    split at h0
    ·split at h0
     ·cases h0
     ·rename_i hs
      simpa using hs
    ·cases h0
   obtain⟨g,off,sp⟩:=ad
   simp only at hsp
   subst hsp
   refine⟨g,off,cap,xs,by rw[h1],by omega,World.block_lt_of_cell? w ⟨g,off,none⟩ h0,fun h=>h,h3,fun i x hi=>?_⟩
   have hil:i<len*P.cellsOf e:=by
    rw[← h4]
    exact(List.getElem?_eq_some_iff.1 hi).1
   rw[← hi,← h5 i hil]
   congr 1
   have:=Nat.div_add_mod i (P.cellsOf e)
   rw[Nat.mul_comm]at this
   unfold Addr.add
   split<;>split<;>simp_all<;>omega
def yP(P:Program):List Field→Nat→Nat→Bool
 |[],off,e=>Nat.beq off e
 |f::fs,off,e=>Nat.beq f.offset off&&yP P fs (off+P.cellsOf f.type) e
theorem q9{cs:List Value}:∀(fs:List Field) (Ps:List (List A→Prop)) (off:Nat),fs.length=Ps.length→yP P fs off cs.length=true →
  (∀(i:Nat) (f:Field) (p:List A→Prop),fs[i]?=some f→Ps[i]?=some p→fX w p ((cs.drop f.offset).take (P.cellsOf f.type)))→fX w (X5 Ps) (cs.drop off)
 |[],Ps,off,hl,hc,_=>by
  obtain rfl:=List.eq_nil_of_length_eq_zero (l:=Ps) (by simpa using hl.symm)
  have:=Nat.eq_of_beq_eq_true hc
  rw[List.drop_eq_nil_of_le (by omega)]
  exact⟨[],rfl,RL.nil⟩
 |f::fs,[],off,hl,_,_=>by simp at hl
 |f::fs,p::Ps,off,hl,hc,h=>by
  rw[yP,Bool.and_eq_true]at hc
  have ho:=Nat.eq_of_beq_eq_true hc.1
  obtain⟨a,ha,hra⟩:=h 0 f p rfl rfl
  obtain⟨b,hb,hrb⟩:=q9 fs Ps (off+P.cellsOf f.type) (by simpa using hl) hc.2 fun i g q hg hq=>h (i+1) g q hg hq
  refine⟨a++b,⟨a,b,rfl,ha,hb⟩,?_⟩
  have e:cs.drop off=(cs.drop off).take (P.cellsOf f.type)++cs.drop (off+P.cellsOf f.type):=by
   rw[← List.drop_drop,List.take_append_drop]
  rw[e]
  rw[ho]at hra
  exact RL.append hra hrb
def IV(P:Program)(t:TypeId):Option (List TypeId) :=
 match P.underlying t with
 |some (.struct fs)=>bif yP P fs.toList 0 (P.cellsOf t)then some (fs.toList.map (·.type))else none
 |_=>none
theorem mV{t:TypeId}{tys:List TypeId}(ht:IV P t=some tys){Ps:List (List A→Prop)}(hl:tys.length=Ps.length){fuel:Nat}{cs:List Value}{x:DataW H×List MemPlace}(hx:DataW.trod enc P w base spare held fuel t cs=some x)(hlight:jM P t x.1)
  (ih:∀ n,n<fuel→∀(i:Nat) (ty:TypeId) (p:List A→Prop),tys[i]?=some ty→Ps[i]?=some p→∀(cs:List Value) (x:DataW H×List MemPlace),DataW.trod enc P w base spare held n ty cs=some x→jM P ty x.1→fX w p cs) :
  fX w (X5 Ps) cs:=by
 unfold IV at ht
 split at ht
 ·rename_i fs hu
  cases hcon:yP P fs.toList 0 (P.cellsOf t)with
  |false=>rw[hcon]at ht;cases ht
  |true =>
   rw[hcon,cond_true,Option.some.injEq]at ht
   obtain⟨xs,n,hn,hxd,hcl,hxl,hf⟩:=DataW.trod_struct hu hx
   have:=q9 (w:=w) (P:=P) (cs:=cs) fs.toList Ps 0 (by rw[← hl,← ht,List.length_map]) (by rw[hcl];exact hcon) fun i f p hi hp=>by
    have hi':fs[i]?=some f:=by simpa using hi
    have hlt:=(Array.getElem?_eq_some_iff.1 hi').1
    obtain⟨y,hy⟩:∃ y,xs[i]?=some y:=⟨_,List.getElem?_eq_getElem (by omega)⟩
    refine ih n (by omega) i f.type p (by rw[← ht,List.getElem?_map,hi];rfl) hp _ y ((hf i f hi').trans hy) fun k hk=>hlight k ?_
    simp only[hxd,DataW.weights,hu]
    refine DataW.weights_mem_each (j:=i) (t:=f.type) (d:=y.1) ?_ ?_ k hk
    ·rw[List.getElem?_map,hi]
     rfl
    ·rw[List.getElem?_map,hy]
     rfl
   simpa using this
 ·cases ht
theorem jL{t:TypeId}{ks:List Sh}(m:Nat)(hk:pM P m t=some ks){F:List A→Prop}(hF:∀ l,dQ ks l→F l){fuel:Nat}{cs:List Value}{x:DataW H×List MemPlace}(hx:DataW.trod enc P w base spare held fuel t cs=some x)(hlight:jM P t x.1):fX w F cs :=
 (l4 m t ks hk fuel cs x hx hlight).pred hF
theorem y4{l:List A}(h:X5 [] l):l=[]:=h
theorem eB{p:List A→Prop}{ps:List (List A→Prop)}{l:List A}(h:X5 (p::ps) l):∃ a b,l=a++b∧p a∧X5 ps b:=h
end
end Go.Proofs.YtpdphobnchajbaaGreatDoor
