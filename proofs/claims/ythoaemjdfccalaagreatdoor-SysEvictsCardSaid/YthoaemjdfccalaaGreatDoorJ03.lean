/- Out of tables: a context that is the program's. -/
import Derived.Test.YthoaemjdfccalaaGreatDoorJ02
set_option linter.all false
namespace Go.Proofs.YthoaemjdfccalaaGreatDoor.Ev
open Go Go.RowKit
theorem aI{C:Ctx}{k:List It}{st:St}{Q:Ex->St->Prop}{dst:Option Nat}{ms:List MOp}{f:FuncId}{l:List A}{m:MFn}(hB:C.B f=some m)(hp:oB C f=true)(hO:C.XO f=none:=by rfl):l9 C f l dst ms st k Q↔(l.length<=m.nt/\aT C [.code m.body] ⟨jJ 0 l,st.H⟩ (nK C m.res dst ms st.env k Q)):=by by_cases hl:l.length<=m.nt;{rw[N6 hB hp hl hO];simp_all};{constructor;{rintro⟨x,H',⟨N,h⟩,-⟩;cases N with|zero=>simp[aS.callO]at h|succ N=>simp[aS.callO,hO,hp,hB,d7,if_neg hl]at h};omega}
section
variable{H:aF}{n:Nat}
theorem uC{x:Value}:freeze H (n+1) (.v x)=some (.v x):=by simp[freeze]
theorem aPT{cs:List A}:freeze H (n+1) (.agg cs)=(bV (freeze H n) cs).map .agg:=by simp[freeze]
theorem aO2{cs:List A}:freeze H (n+1) (.tup cs)=(bV (freeze H n) cs).map .tup:=by simp[freeze]
theorem aMR{f:FuncId}{fs caps:List A}:freeze H (n+1) (.clo f fs caps)=match bV (freeze H n) fs,bV (freeze H n) caps with|some xs,some ys=>some (.clo f xs ys)|_,_=>none:=by rfl
theorem aJU{l:Nat}{cs:List A}:freeze H (n+1) (.sl l cs)=some (.sl l cs):=by simp[freeze]
theorem aVB{b:Nat}:freeze H (n+1) (.mp b)=match H[b]? with|some (some k)=>(bV (freeze H n) k.cs).map .mf|_=>none:=by rfl
theorem aL1{b off:Nat}:freeze H (n+1) (.ptr b off)=match H[b]? with|some (some k)=>(bV (freeze H n) (k.cs.drop off)).map .fp|_=>none:=by rfl
theorem E0{b off l sz:Nat}:freeze H (n+1) (.ref b off l sz)=match H[b]? with|some (some k)=>(if off+l*sz<=k.cs.length then(bV (freeze H n) ((k.cs.drop off).take (l*sz))).map (.sl l)else none)|_=>none:=by rfl
theorem ND{a:A}:qC .shut H a=freeze H 20 a:=rfl
theorem K8{a:A}:qC .pass H a=freeze H 20 a:=rfl
theorem N8{a:A}:qC .norm H a=(freeze H 20 a).map nrm:=rfl
theorem JV{f:A->Option A}:bV f []=some []:=rfl
theorem dX{f:A->Option A}{c:A}{cs:List A}:bV f (c::cs)=match f c,bV f cs with|some x,some xs=>some (x::xs)|_,_=>none:=rfl
end
theorem sE{s t:Nat}{x:A}{l:Env}:cV ((s,x)::l) t=if s=t then some x else cV l t:=by by_cases h:s=t;{simp[cV,cond_true]};{(have hb:Nat.beq s t=false:=by cases hb:Nat.beq s t with|false=>rfl|true=>simp_all);simp[cV,hb,if_neg h]}
theorem YP{t:Nat}:cV [] t=none:=rfl
theorem aHG{c:Prop}[Decidable c]{α:Type}{a b:α}(h:c):(if c then a else b)=a:=if_pos h
theorem aMK{c:Prop}[Decidable c]{α:Type}{a b:α}(h:¬c):(if c then a else b)=b:=if_neg h
theorem aIb{c:Prop}[Decidable c](h:c):decide c=true:=decide_eq_true h
theorem aRl{c:Prop}[Decidable c](h:¬c):decide c=false:=decide_eq_false h
theorem aFC{a b:Int}(h:a=b):(a==b)=true:=by simp[h]
theorem cQ{a b:Int}(h:¬a=b):(a==b)=false:=by simp[h]
theorem eH{a b:Int}(h:¬a=b):(a !=b)=true:=by simp[h]
theorem aLT{a b:Int}(h:a=b):(a !=b)=false:=by simp[h]
theorem wrap_u8{n:Int}(h:0<=n)(h':n<=255):IntKind.u8.wrap n=n:=by simp[IntKind.wrap,IntKind.bits,IntKind.signed];omega
theorem aAZ{n:Int}(h:0<=n)(h':n<=65535):IntKind.u16.wrap n=n:=by simp[IntKind.wrap,IntKind.bits,IntKind.signed];omega
theorem HJ{n:Int}(h:0<=n)(h':n<=18446744073709551615):IntKind.u64.wrap n=n:=by simp[IntKind.wrap,IntKind.bits,IntKind.signed];omega
theorem wrap_i64{n:Int}(h:-9223372036854775808<=n)(h':n<=9223372036854775807):IntKind.i64.wrap n=n:=by simp[IntKind.wrap,IntKind.bits,IntKind.signed];omega
theorem aCC{a b:Int}(h:0<=a):a.tdiv b=a/b:=Int.tdiv_eq_ediv_of_nonneg h
theorem XK{a b:Int}(h:0<=a):a.tmod b=a%b:=Int.tmod_eq_emod_of_nonneg h
def fX:M->Option (List Nat)|.reg l _ _=>some l|.seq a _=>fX a|.block _ a=>fX a|.loop a=>fX a|_=>none
theorem rG{e e':Env}:∀{l:List Nat},(∀s∈l,cV e s=cV e' s)->dT e l=dT e' l|[],_=>rfl|s::l,h=>by unfold dT;rw[h s (.head _),rG fun t ht=>h t (.tail _ ht)]
theorem IK(e:Env)(l:List Nat):dT (dT e l) l=dT e l:=rG fun s hs=>by rw[iW,if_pos hs]
theorem rV{C:Ctx}{H:aF}{Q:Ex->St->Prop}{l:List Nat}{e:Env}:∀(a:M) (k:List It),fX a=some l->(aT C (.code a::k) ⟨e,H⟩ Q↔aT C (.code a::k) ⟨dT e l,H⟩ Q)|.reg keep ops n,k,h=>by simp[fX]at h;subst h;rw[AN,AN];simp[IK]|.seq a b,k,h=>by rw[z8,z8];exact rV a _ h|.block id a,k,h=>by rw[tB,tB];exact rV a _ h|.loop a,k,h=>by rw[aA,aA];exact rV a _ h|.skip,_,h=>by simp[fX]at h|.ops _,_,h=>by simp[fX]at h|.again _,_,h=>by simp[fX]at h|.cond _ _ _,_,h=>by simp[fX]at h|.rf _ _ _ _ _ _,_,h=>by simp[fX]at h|.exit _,_,h=>by simp[fX]at h|.ret,_,h=>by simp[fX]at h|.bad,_,h=>by simp[fX]at h
theorem aB{C:Ctx}{H:aF}{Q:Ex->St->Prop}{l:List Nat}{e:Env}{a:M}{k:List It}(h:fX a=some l):aT C (.code (.loop a)::k) ⟨e,H⟩ Q↔aT C (.code (.loop a)::k) ⟨dT e l,H⟩ Q:=rV (.loop a) k h
def yC{α:Type}:List (Nat×α)->Nat->Option α|[],_=>none|(k,x)::l,n=>bif Nat.beq k n then some x else yC l n
theorem DA{α:Type}:∀{l:List (Nat×α)}{n:Nat}{x:α},yC l n=some x->(n,x)∈l|[],_,_,h=>by cases h|(k,y)::l,n,x,h=>by unfold yC at h;cases hb:Nat.beq k n with|true=>simp_all|false=>rw[hb]at h;exact .tail _ (DA h)
def aSC(P:Program)(f:FuncId)(m:MFn):Prop:=∃fn code kp,P.funcs[f]?=some fn/\fn.body=some code/\fn.ntmps=m.nt/\fn.results.toList=m.res/\(fn.name=="runtime.NumGoroutine")=false/\cmp m.nt kp code=m.body
inductive BT(α:Type) where
 |nil
 |node (k:Nat) (x:α) (l r:BT α)
def BT.get{α:Type}:BT α->Nat->Option α|.nil,_=>none|.node k x l r,n=>bif Nat.beq n k then some x else bif Nat.ble n k then l.get n else r.get n
def BT.All{α:Type}(p:Nat->α->Prop):BT α->Prop|.nil=>True|.node k x l r=>p k x/\l.All p/\r.All p
theorem BT.all_get{α:Type}{p:Nat->α->Prop}:∀{t:BT α}{n:Nat}{x:α},t.All p->t.get n=some x->p n x|.nil,_,_,_,h=>by cases h|.node k y l r,n,x,ha,h=>by unfold BT.get at h;cases hb:Nat.beq n k with|true=>rw[hb]at h;simp at h;rw[<-h,Nat.eq_of_beq_eq_true hb];exact ha.1|false=>rw[hb]at h;cases hc:Nat.ble n k with|true=>rw[hc]at h;exact BT.all_get ha.2.1 h|false=>rw[hc]at h;exact BT.all_get ha.2.2 h
theorem aAo{P:Program}{tl:BT Ty}{gl:List (Nat×List Value)}{ifs:Nat->Bool}{fl:BT MFn}{X:FuncId->List A->Option A}{XO:FuncId->Option (List A->aF->Option (A×aF))}(h0:P.follows .mixedOrders=true)(h1:tl.All fun t ty=>qK P t=some ty)(h2:fl.All (aSC P))(h3:QOk ⟨tl.get,⟨yC gl,ZK,ifs⟩⟩ P X) (h4:∀f g as H x H',XO f=some g->g as H=some (x,H')->oQ ⟨tl.get,⟨yC gl,ZK,ifs⟩⟩ P f as H x H'):jG P ⟨⟨tl.get,⟨yC gl,ZK,ifs⟩⟩,fl.get,X,XO⟩:=⟨h0,fun t ty h=>BT.all_get h1 h,fun _ _ _ _ _ _=>Iff.rfl,fun f m h=>BT.all_get h2 h,h3,h4⟩
theorem oY{T:Tb}{P:Program}:QOk T P (fun _ _=>none):=fun _ _ _ h=>by cases h
section
variable{C:Ctx}{k:List It}{st:St}{e:Env}{H:aF}{Q:Ex->St->Prop}{dst:Option Nat}{ms:List MOp}{n:Nat}
def ExK(C:Ctx)(ex:Ex)(k:List It)(st:St)(Q:Ex->St->Prop):Prop:=match ex with|.go=>aT C k st Q|ex=>cX C ex k st Q
theorem jC:ExK C .go k st Q↔aT C k st Q:=Iff.rfl
theorem GI{id:Nat}:ExK C (.out id) k st Q↔cX C (.out id) k st Q:=Iff.rfl
theorem kI:ExK C .back k st Q↔cX C .back k st Q:=Iff.rfl
def ZN(C:Ctx)(b:Nat)(p:Option Ex)(H:aF)(k:List It)(e:Env)(Q:Ex->St->Prop):Prop:=∃ex,p=some ex/\ExK C ex k ⟨e,H.set b none⟩ Q
theorem bU{b:Nat}{ex:Ex}:ZN C b (some ex) H k e Q↔ExK C ex k ⟨e,H.set b none⟩ Q:=⟨fun⟨_,h,hr⟩=>by simp_all,fun h=>⟨ex,rfl,h⟩⟩
def bS(C:Ctx)(f:FuncId)(as:List A)(H:aF)(Q:A->aF->Prop):Prop:=∃x H',EvO C f as H x H'/\Q x H'
def RfK(C:Ctx)(g:Option (Tgt×List A×List A))(nt:Nat)(ps sl:List Nat)(a b:M)(st:St)(k:List It)(Q:Ex->St->Prop):Prop:=match g with|some (.fn f,fs,caps)=>bS C f (fs++[.yl st.H.length]++caps) (st.H++[some (fC nt ps a b (dT st.env sl))]) fun _ H'=>ZN C st.H.length (pending H' st.H.length) H' k st.env Q|_=>False
theorem lF{f:FuncId}{fs caps:List A}{nt:Nat}{ps sl:List Nat}{a b:M}:RfK C (some (.fn f,fs,caps)) nt ps sl a b st k Q↔bS C f (fs++[.yl st.H.length]++caps) (st.H++[some (fC nt ps a b (dT st.env sl))]) fun _ H'=>ZN C st.H.length (pending H' st.H.length) H' k st.env Q:=Iff.rfl
theorem i7{g:Operand}{nt:Nat}{ps sl:List Nat}{a b:M}:aT C (.code (.rf g nt ps sl a b)::k) st Q↔RfK C ((opnd st.env g).bind callee) nt ps sl a b st k Q:=by(have back:∀{ex:Ex}{s:St},(match ex with|.go=>aT C k s Q|ex=>cX C ex k s Q)↔ExK C ex k s Q:=by intro ex s;cases ex<;>exact Iff.rfl);constructor;{intro h;obtain⟨N,ex,st',h,hq⟩:=bC.1 h;replace h:=iQ h;simp only[aX]at h;split at h;{rename_i f fs caps hc;split at h;{rename_i x H' ho;split at h;{rename_i ex1 hp;simp at h;obtain⟨rfl,rfl⟩:=h;rw[hc];exact⟨x,H',⟨N,ho⟩,ex1,hp,back.1 hq⟩};simp_all};simp_all};simp_all};{intro h;unfold RfK at h;split at h;{rename_i f fs caps hc;obtain⟨x,H',⟨N,ho⟩,ex,hp,hr⟩:=h;refine bC.2 ⟨N+1,ex,⟨st.env,H'.set st.H.length none⟩,dJ ?_,back.2 hr⟩;simp only[aX,hc,ho,hp]};simp_all}
def lX(C:Ctx)(res:List ResultVar)(Q:A->aF->Prop)(ex:Ex)(st:St):Prop:=match ex with|.out _=>False|_=>∃a,dG C.T st res=some a/\Q a st.H
theorem aP{res:List ResultVar}{Q:A->aF->Prop}:lX C res Q .go st↔∃a,dG C.T st res=some a/\Q a st.H:=Iff.rfl
theorem aD{res:List ResultVar}{Q:A->aF->Prop}:lX C res Q .back st↔∃a,dG C.T st res=some a/\Q a st.H:=Iff.rfl
theorem aJ{f:FuncId}{as:List A}{m:MFn}{Q:A->aF->Prop}(hB:C.B f=some m)(hp:oB C f=true)(hO:C.XO f=none:=by rfl):bS C f as H Q↔(as.length<=m.nt/\aT C [.code m.body] ⟨jJ 0 as,H⟩ (lX C m.res Q)):=by constructor;{rintro⟨x,H',⟨N,h⟩,hr⟩;cases N with|zero=>simp[aS.callO]at h|succ N=>simp[aS.callO,hO,hB,d7]at h;split at h;{(have fin:∀(ex:Ex) (s1:St),ex=.go\/ex=.back->aX C.T (aS C N) (aS.callO C N) N m.body ⟨jJ 0 as,H⟩=some (ex,s1)->(match dG C.T s1 m.res with|some a=>some (a,s1.H)|none=>none)=some (x,H')->aT C [.code m.body] ⟨jJ 0 as,H⟩ (lX C m.res Q):=by intro ex s1 hex h1 h2;cases hr2:dG C.T s1 m.res with|none=>simp_all|some a=>simp[hr2,Option.some.injEq,Prod.mk.injEq]at h2;obtain⟨rfl,rfl⟩:=h2;refine bC.2 ⟨N,ex,s1,h1,?_⟩;rcases hex with rfl|rfl;{exact gM.2 ⟨a,hr2,hr⟩};{exact fM.2 ⟨a,hr2,hr⟩});split at h;{grind};{grind};simp_all};simp_all};{rintro⟨hl,h⟩;obtain⟨N,ex,s1,h1,hq⟩:=bC.1 h;(have fin:∀(ex:Ex),ex=.go\/ex=.back->aX C.T (aS C N) (aS.callO C N) N m.body ⟨jJ 0 as,H⟩=some (ex,s1)->(∃a,dG C.T s1 m.res=some a/\Q a s1.H)->bS C f as H Q:=by rintro ex hex h1 ⟨a,h2,hr⟩;refine⟨a,s1.H,⟨N+1,?_⟩,hr⟩;rcases hex with rfl|rfl<;>simp[aS.callO,hO,hp,hB,d7,if_pos hl,h1,h2]);cases ex with|go=>exact fin .go (.inl rfl) h1 (gM.1 hq)|back=>exact fin .back (.inr rfl) h1 (fM.1 hq)|out id=>exact(fM.1 hq).elim}
def wL(C:Ctx)(b:Nat)(dst:Option Nat)(ms:List MOp)(e:Env)(k:List It)(Q:Ex->St->Prop)(ex:Ex)(s2:St):Prop:=∃r2,bA s2.H b=some r2/\gQ C 0 ms ⟨put e dst (.v (.bool (match ex with|.go=>true|_=>false))),s2.H.set b (some (match ex with|.go=>r2.blk 0 0|ex=>r2.blk 2 (IG ex)))⟩ k Q
def M2(C:Ctx)(b:Nat)(body:M)(dst:Option Nat)(ms:List MOp)(e:Env)(k:List It)(Q:Ex->St->Prop)(ex:Ex)(s1:St):Prop:=ex=.go/\∃r1,bA s1.H b=some r1/\r1.s=0/\aT C [.code body] ⟨s1.env,s1.H.set b (some (r1.blk 1 r1.p))⟩ (wL C b dst ms e k Q)
def aA6(C:Ctx)(b:Nat)(r:Option fD)(as:List A)(dst:Option Nat)(ms:List MOp)(st:St)(k:List It)(Q:Ex->St->Prop):Prop:=match r with|some r=>(r.s=0/\as.length=r.ps.length)/\aT C [.code r.a] ⟨dS r.ps as (dS r.sl r.vs []),st.H⟩ (M2 C b r.b dst ms st.env k Q)|none=>False
theorem aZ{b:Nat}{r:fD}{as:List A}:aA6 C b (some r) as dst ms st k Q↔((r.s=0/\as.length=r.ps.length)/\aT C [.code r.a] ⟨dS r.ps as (dS r.sl r.vs []),st.H⟩ (M2 C b r.b dst ms st.env k Q)):=Iff.rfl
theorem aJh{b:Nat}{body:M}{s1:St}{r1:fD}(h:bA s1.H b=some r1):M2 C b body dst ms e k Q .go s1↔(r1.s=0/\aT C [.code body] ⟨s1.env,s1.H.set b (some (r1.blk 1 r1.p))⟩ (wL C b dst ms e k Q)):=by unfold M2;grind
theorem aDL{b:Nat}{s2:St}{r2:fD}(h:bA s2.H b=some r2):wL C b dst ms e k Q .go s2↔gQ C 0 ms ⟨put e dst (.v (.bool true)),s2.H.set b (some (r2.blk 0 0))⟩ k Q:=by unfold wL;grind
theorem aBm{b id:Nat}{s2:St}{r2:fD}(h:bA s2.H b=some r2):wL C b dst ms e k Q (.out id) s2↔gQ C 0 ms ⟨put e dst (.v (.bool false)),s2.H.set b (some (r2.blk 2 (IG (.out id))))⟩ k Q:=by unfold wL;grind
theorem V1{b:Nat}{s2:St}{r2:fD}(h:bA s2.H b=some r2):wL C b dst ms e k Q .back s2↔gQ C 0 ms ⟨put e dst (.v (.bool false)),s2.H.set b (some (r2.blk 2 1))⟩ k Q:=by constructor;{rintro⟨r,h1,h2⟩;rw[h]at h1;cases h1;exact h2};{intro h2;exact⟨r2,h,h2⟩}
theorem dM{b:Nat}{as:List A}:YlK C b as dst ms st k Q↔aA6 C b (bA st.H b) as dst ms st k Q:=by constructor;{rintro⟨x,H',⟨N,h⟩,hr⟩;cases N with|zero=>simp[aS.callO]at h|succ N=>simp only[aS.callO,jI]at h;cases h0:bA st.H b with|none=>simp_all|some r=>simp only[h0]at h;split at h;{rename_i hc;cases h1:aX C.T (aS C N) (aS.callO C N) N r.a ⟨dS r.ps as (dS r.sl r.vs []),st.H⟩with|none=>simp_all|some es=>obtain⟨e1,s1⟩:=es;cases e1 with|out id=>simp_all|back=>simp_all|go=>simp only[h1]at h;cases h2:bA s1.H b with|none=>simp_all|some r1=>simp only[h2]at h;split at h;{rename_i hs;cases h3:aX C.T (aS C N) (aS.callO C N) N r.b ⟨s1.env,s1.H.set b (some (r1.blk 1 r1.p))⟩with|none=>simp_all|some es=>obtain⟨e2,s2⟩:=es;simp only[h3]at h;cases h4:bA s2.H b with|none=>simp_all|some r2=>simp only[h4]at h;refine⟨hc,bC.2 ⟨N,.go,s1,h1,gM.2 ?_⟩⟩;rw[aJh h2];refine⟨hs,bC.2 ⟨N,e2,s2,h3,?_⟩⟩;cases e2 with|go=>simp at h;obtain⟨rfl,rfl⟩:=h;exact gM.2 ((aDL h4).2 hr)|out id=>obtain⟨rfl,rfl⟩:=h;exact fM.2 ((aBm h4).2 hr)|back=>obtain⟨rfl,rfl⟩:=h;exact fM.2 ((V1 h4).2 hr)};simp_all};simp_all};{intro h;cases h0:bA st.H b with|none=>rw[h0]at h;exact h.elim|some r=>rw[h0]at h;obtain⟨hc,h⟩:=h;obtain⟨N1,e1,s1,h1,hq⟩:=bC.1 h;(have hgo:M2 C b r.b dst ms st.env k Q e1 s1:=by cases e1 with|go=>exact gM.1 hq|out id=>exact fM.1 hq|back=>exact fM.1 hq);obtain⟨rfl,r1,h2,hs,h⟩:=hgo;obtain⟨N2,e2,s2,h3,hq⟩:=bC.1 h;(have hend:wL C b dst ms st.env k Q e2 s2:=by cases e2 with|go=>exact gM.1 hq|out id=>exact fM.1 hq|back=>exact fM.1 hq);obtain⟨r2,h4,hr⟩:=hend;have k1:=fP C (Nat.le_max_left N1 N2) h1;have k2:=fP C (Nat.le_max_right N1 N2) h3;simp[fI]at k1 k2;refine⟨_,_,⟨max N1 N2+1,?_⟩,hr⟩;simp[aS.callO,jI,h0,if_pos hc,k1,h2,if_pos hs,k2,h4];cases e2<;>rfl}
def aNs(C:Ctx)(b:Nat)(body:M)(dst:Option Nat)(ms:List MOp)(e:Env)(k:List It)(Q:Ex->St->Prop)(r:Option fD)(s1:St):Prop:=match r with|some r1=>r1.s=0/\aT C [.code body] ⟨s1.env,s1.H.set b (some (r1.blk 1 r1.p))⟩ (wL C b dst ms e k Q)|none=>False
theorem dB{b:Nat}{body:M}{s1:St}:M2 C b body dst ms e k Q .go s1↔aNs C b body dst ms e k Q (bA s1.H b) s1:=by unfold M2 aNs;constructor;{simp_all};grind
theorem bM{b:Nat}{body:M}{s1:St}{r1:fD}:aNs C b body dst ms e k Q (some r1) s1↔(r1.s=0/\aT C [.code body] ⟨s1.env,s1.H.set b (some (r1.blk 1 r1.p))⟩ (wL C b dst ms e k Q)):=Iff.rfl
def OP(C:Ctx)(b:Nat)(dst:Option Nat)(ms:List MOp)(e:Env)(k:List It)(Q:Ex->St->Prop)(y:Bool)(s p:Int)(r:Option fD)(H:aF):Prop:=match r with|some r2=>gQ C 0 ms ⟨put e dst (.v (.bool y)),H.set b (some (r2.blk s p))⟩ k Q|none=>False
theorem bG{b:Nat}{y:Bool}{s p:Int}{r2:fD}:OP C b dst ms e k Q y s p (some r2) H↔gQ C 0 ms ⟨put e dst (.v (.bool y)),H.set b (some (r2.blk s p))⟩ k Q:=Iff.rfl
theorem dA{b:Nat}{s2:St}:wL C b dst ms e k Q .go s2↔OP C b dst ms e k Q true 0 0 (bA s2.H b) s2.H:=by unfold OP;constructor;{rintro⟨r,h1,h2⟩;simp_all};{intro h;split at h;{rename_i r2 hr;exact⟨r2,hr,h⟩};simp_all}
theorem zW{b id:Nat}{s2:St}:wL C b dst ms e k Q (.out id) s2↔OP C b dst ms e k Q false 2 (id+2) (bA s2.H b) s2.H:=by unfold OP;constructor;{rintro⟨r,h1,h2⟩;rw[h1];exact h2};{intro h;split at h;{rename_i r2 hr;exact⟨r2,hr,h⟩};simp_all}
theorem jZ{b:Nat}{s2:St}:wL C b dst ms e k Q .back s2↔OP C b dst ms e k Q false 2 1 (bA s2.H b) s2.H:=by unfold OP;constructor;{rintro⟨r,h1,h2⟩;rw[h1];exact h2};{intro h;split at h;{rename_i r2 hr;exact⟨r2,hr,h⟩};simp_all}
end
noncomputable def aBs(e:Env)(t:Nat):Option A:=List.rec none (fun p _ ih=>bif Nat.beq p.1 t then some p.2 else ih) e
theorem aAu(e:Env)(t:Nat):aBs e t=cV e t:=by induction e with|nil=>rfl|cons p l ih=>show(bif Nat.beq p.1 t then some p.2 else aBs l t)=_;rw[ih];rfl
noncomputable def BS(e:Env):Operand->Option A|.tmp t=>aBs e t|.const x=>some (ofV x)|.func f=>some (.v (.func (.func f) #[] #[]))|.global g=>some (.v (.pointer (some ⟨g,0,none⟩)))
theorem bI(e:Env)(x:Operand):BS e x=opnd e x:=by cases x<;>simp[BS,opnd,aAu]
noncomputable def EE(e:Env):List Operand->Option (List A)|[]=>some []|x::l=>match BS e x,EE e l with|some a,some as=>some (a::as)|_,_=>none
theorem bH(e:Env):∀l,EE e l=opnds e l|[]=>rfl|x::l=>by simp[EE,bI,bH e l];all_goals rfl
def wB(k k':IntKind)(x:Value):Option Value:=if k=k' then some x else none
def aVx(op:BinOp)(k k':IntKind)(a b:Int):Option Value:=match op with|.shl=>if b<0 then none else some (.int k (k.wrap (a*2^(min b.toNat k.bits))))|.shr=>if b<0 then none else some (.int k (a.fdiv (2^(min b.toNat k.bits))))|.add=>wB k k' (.int k (k.wrap (a+b)))|.sub=>wB k k' (.int k (k.wrap (a-b)))|.mul=>wB k k' (.int k (k.wrap (a*b)))|.eql=>wB k k' (.bool (a==b))|.neq=>wB k k' (.bool (a !=b))|.lss=>wB k k' (.bool (a<b))|.leq=>wB k k' (.bool (a<=b))|.gtr=>wB k k' (.bool (a>b))|.geq=>wB k k' (.bool (a>=b))|op=>yS op (.int k a) (.int k' b)
theorem aHw(op:BinOp)(k k':IntKind)(a b:Int):aVx op k k' a b=yS op (.int k a) (.int k' b):=by cases op<;>rfl
def aRM(op:BinOp)(x y:Value):Option Value:=match x with|.int k a=>(match y with|.int k' b=>aVx op k k' a b|y=>yS op (.int k a) y)|x=>yS op x y
theorem fQ(op:BinOp)(x y:Value):aRM op x y=yS op x y:=by unfold aRM;split;{split;{exact aHw ..};simp};simp
def aQ5(s:ByteArray)(i j:Nat):ByteArray:=⟨⟨bif Nat.beq j s.size then s.data.toList.drop i else(s.data.toList.drop i).take (j-i)⟩⟩
theorem fR(s:ByteArray)(i j:Nat):aQ5 s i j=s.extract i j:=by(have h2:(s.extract i j).data.toList=(s.data.toList.drop i).take (j-i):=by simp);(have h1:(aQ5 s i j).data.toList=(s.data.toList.drop i).take (j-i):=by unfold aQ5;cases hb:Nat.beq j s.size with|false=>rfl|true=>simp;rw[List.take_of_length_le];simp_all);have h3:=Array.ext' (h1.trans h2.symm);exact ByteArray.ext h3
structure Gt{α:Type}(a:α) where
 v:α
 h:v=a
section
variable(T:Tb)(e:Env)(H:aF)
noncomputable def aIl(x:Operand):Gt (aL T e H (.move x)):=⟨_,by conv=>rhs;simp only[aL,<-bI,<-bH,<-fQ,<-fR]⟩
noncomputable def VH(x:Operand):Gt (aL T e H (.assign x)):=⟨_,by conv=>rhs;simp only[aL,<-bI,<-bH,<-fQ,<-fR]⟩
noncomputable def aGC(c:Operand)(a:Operand)(b:Operand):Gt (aL T e H (.pick c a b)):=⟨_,by conv=>rhs;simp only[aL,<-bI,<-bH,<-fQ,<-fR]⟩
noncomputable def aEL(t:TypeId)(x:Operand):Gt (aL T e H (.load t x)):=⟨_,by conv=>rhs;simp only[aL,<-bI,<-bH,<-fQ,<-fR]⟩
noncomputable def JZ(x:Operand):Gt (aL T e H (.nilCheck x)):=⟨_,by conv=>rhs;simp only[aL,<-bI,<-bH,<-fQ,<-fR]⟩
noncomputable def aCd(op:BinOp)(t:TypeId)(x:Operand)(y:Operand)(z4:TypeId):Gt (aL T e H (.binOp op t x y z4)):=⟨_,by conv=>rhs;simp only[aL,<-bI,<-bH,<-fQ,<-fR]⟩
noncomputable def aGN(op:UnOp)(z1:TypeId)(x:Operand):Gt (aL T e H (.unOp op z1 x)):=⟨_,by conv=>rhs;simp only[aL,<-bI,<-bH,<-fQ,<-fR]⟩
noncomputable def NH(src:TypeId)(dst:TypeId)(x:Operand):Gt (aL T e H (.convert src dst x)):=⟨_,by conv=>rhs;simp only[aL,<-bI,<-bH,<-fQ,<-fR]⟩
noncomputable def aAY(t:TypeId)(parts:Array (Nat×Operand)):Gt (aL T e H (.build t parts)):=⟨_,by conv=>rhs;simp only[aL,<-bI,<-bH,<-fQ,<-fR]⟩
noncomputable def G5(t:TypeId)(x:Operand)(f:Nat):Gt (aL T e H (.fieldAddr t x f)):=⟨_,by conv=>rhs;simp only[aL,<-bI,<-bH,<-fQ,<-fR]⟩
noncomputable def aBH(t:TypeId)(x:Operand)(f:Nat):Gt (aL T e H (.field t x f)):=⟨_,by conv=>rhs;simp only[aL,<-bI,<-bH,<-fQ,<-fR]⟩
noncomputable def F6(t:TypeId)(x:Operand)(i:Operand):Gt (aL T e H (.indexAddr t x i)):=⟨_,by conv=>rhs;simp only[aL,<-bI,<-bH,<-fQ,<-fR]⟩
noncomputable def Z4(t:TypeId)(x:Operand)(i:Operand):Gt (aL T e H (.index t x i)):=⟨_,by conv=>rhs;simp only[aL,<-bI,<-bH,<-fQ,<-fR]⟩
noncomputable def ZH(t:TypeId)(x:Operand)(lo:Option Operand)(hi:Option Operand)(mx:Option Operand):Gt (aL T e H (.slice t x lo hi mx)):=⟨_,by conv=>rhs;simp only[aL,<-bI,<-bH,<-fQ,<-fR]⟩
noncomputable def LV(x:Operand)(i:Nat):Gt (aL T e H (.extract x i)):=⟨_,by conv=>rhs;simp only[aL,<-bI,<-bH,<-fQ,<-fR]⟩
noncomputable def W0(t:TypeId)(m:Operand)(k:Operand)(ok:Bool):Gt (aL T e H (.lookup t m k ok)):=⟨_,by conv=>rhs;simp only[aL,<-bI,<-bH,<-fQ,<-fR]⟩
noncomputable def H5(fn:Fn)(first:Array Operand)(caps:Array Operand):Gt (aL T e H (.makeFunc fn first caps)):=⟨_,by conv=>rhs;simp only[aL,<-bI,<-bH,<-fQ,<-fR]⟩
noncomputable def RT(c:Call):Gt (aL T e H (.call c)):=⟨_,by conv=>rhs;simp only[aL,<-bI,<-bH,<-fQ,<-fR]⟩
noncomputable def ZZ(t:TypeId):Gt (aO T e H (.alloc t)):=⟨_,by conv=>rhs;simp only[aO,<-bI,<-bH]⟩
noncomputable def aBB(t:TypeId)(x:Operand):Gt (aO T e H (.range t x)):=⟨_,by conv=>rhs;simp only[aO,<-bI,<-bH]⟩
noncomputable def aHt(x:Operand)(str:Bool):Gt (aO T e H (.next x str)):=⟨_,by conv=>rhs;simp only[aO,<-bI,<-bH]⟩
noncomputable def UP(t:TypeId)(m:Operand)(k:Operand)(v:Operand):Gt (aO T e H (.insert t m k v)):=⟨_,by conv=>rhs;simp only[aO,<-bI,<-bH]⟩
noncomputable def EL(t:TypeId)(m:Operand)(k:Operand)(v:Operand):Gt (aO T e H (.mapUpdate t m k v)):=⟨_,by conv=>rhs;simp only[aO,<-bI,<-bH]⟩
noncomputable def KH(t:TypeId)(m:Operand)(k:Operand):Gt (aO T e H (.mapEntry t m k)):=⟨_,by conv=>rhs;simp only[aO,<-bI,<-bH]⟩
noncomputable def B8(z0:TypeId)(m:Operand)(s:Operand)(x:Operand):Gt (aO T e H (.entryStore z0 m s x)):=⟨_,by conv=>rhs;simp only[aO,<-bI,<-bH]⟩
noncomputable def L0(t:TypeId):Gt (aO T e H (.makeMap t none)):=⟨_,by conv=>rhs;simp only[aO,<-bI,<-bH]⟩
noncomputable def aPu(t:TypeId)(x:Operand):Gt (aO T e H (.box t x)):=⟨_,by conv=>rhs;simp only[aO,<-bI,<-bH]⟩
noncomputable def CB(t:TypeId)(len:Nat)(parts:Array (Nat×Operand)):Gt (aO T e H (.buildSlice t len parts)):=⟨_,by conv=>rhs;simp only[aO,<-bI,<-bH]⟩
noncomputable def YZ(t:TypeId)(p:Operand)(x:Operand):Gt (aO T e H (.store t p x)):=⟨_,by conv=>rhs;simp only[aO,<-bI,<-bH]⟩
noncomputable def FA(t:TypeId)(l:Operand)(c:Operand):Gt (aO T e H (.makeSlice t l c)):=⟨_,by conv=>rhs;simp only[aO,<-bI,<-bH]⟩
noncomputable def G8(c:Call):Gt (aO T e H (.call c)):=⟨_,by conv=>rhs;simp only[aO,<-bI,<-bH]⟩
noncomputable def L9:Op->Option A|.move x=>(aIl T e H x).v|.assign x=>(VH T e H x).v|.pick c a b=>(aGC T e H c a b).v|.load t x=>(aEL T e H t x).v|.nilCheck x=>(JZ T e H x).v|.binOp op t x y z4=>(aCd T e H op t x y z4).v|.unOp op z1 x=>(aGN T e H op z1 x).v|.convert src dst x=>(NH T e H src dst x).v|.build t parts=>(aAY T e H t parts).v|.fieldAddr t x f=>(G5 T e H t x f).v|.field t x f=>(aBH T e H t x f).v|.indexAddr t x i=>(F6 T e H t x i).v|.index t x i=>(Z4 T e H t x i).v|.slice t x lo hi mx=>(ZH T e H t x lo hi mx).v|.extract x i=>(LV T e H x i).v|.lookup t m k ok=>(W0 T e H t m k ok).v|.makeFunc fn first caps=>(H5 T e H fn first caps).v|.call c=>(RT T e H c).v|_=>none
theorem CU(op:Op):L9 T e H op=aL T e H op:=by cases op<;>first|rfl|exact Gt.h _
def aOr(r:Option A)(H:aF):Option (A×aF):=match r with|some a=>some (a,H)|none=>none
theorem PP(r:Option A)(H:aF):aOr r H=r.map fun a=>(a,H):=by cases r<;>rfl
noncomputable def XJ(o:Orc)(c:Call):Option (A×aF):=match c.callee with|.value f=>(match BS e f with|some u=>(match callee u with|some (g,fs,caps)=>(match EE e c.args.toList with|some l=>o g (fs++l++caps) H|none=>none)|none=>none)|none=>none)|.builtin b=>(match b with|.append=>(G8 T e H c).v|.copy=>(G8 T e H c).v|.unsafeString=>(G8 T e H c).v|_=>aOr ((RT T e H c).v) H)|_=>none
theorem XW (o:Orc) (c:Call):XJ T e H o c=fF T o ⟨e,H⟩ (.call c):=by unfold XJ fF;simp[calls];cases hc:c.callee with|value f=>(simp[bI,bH];cases h1:opnd e f with|none=>simp[aO,aL,hc]|some u=>simp;cases h2:callee u with|none=>simp[aO,aL,hc]|some r=>cases h3:opnds e c.args.toList with|none=>simp[aO,aL,hc]|some l=>rfl)|builtin b=>(cases b<;>simp[PP,Gt.h]<;>first|((have hl:aO T e H (.call c)=none:=by simp[aO,hc]);rw[hl])|(cases hl:aO T e H (.call c)with|some r=>rfl|none=>simp[aL,hc]))|invoke r m=>simp[aO,aL,hc]
noncomputable def XF(o:Orc):Op->Option (A×aF)|.alloc t=>(ZZ T e H t).v|.range t x=>(aBB T e H t x).v|.next x str=>(aHt T e H x str).v|.insert t m k v=>(UP T e H t m k v).v|.mapUpdate t m k v=>(EL T e H t m k v).v|.mapEntry t m k=>(KH T e H t m k).v|.entryStore z0 m s x=>(B8 T e H z0 m s x).v|.makeMap t none=>(L0 T e H t).v|.box t x=>(aPu T e H t x).v|.buildSlice t len parts=>(CB T e H t len parts).v|.store t p x=>(YZ T e H t p x).v|.makeSlice t l c=>(FA T e H t l c).v|.call c=>XJ T e H o c|op=>aOr (L9 T e H op) H
theorem P8(o:Orc)(op:Op):XF T e H o op=fF T o ⟨e,H⟩ op:=by cases op;(case call c=>exact XW T e H o c);(case makeMap t x=>cases x with|none=>simp[XF,Gt.h,fF];cases aO T e H _<;>rfl|some x=>rfl);all_goals first|(simp[XF,Gt.h,fF];cases aO T e H _<;>rfl)|(simp[XF,CU,PP,fF,calls,aO])
end
noncomputable def PT(T:Tb)(q:eK)(st:St)(op:Op):Option A:=match op with|.call c=>eN T q st (.call c)|.buildSlice t n ps=>eN T q st (.buildSlice t n ps)|op=>L9 T st.env st.H op
theorem JY(T:Tb)(q:eK)(st:St)(op:Op):PT T q st op=eN T q st op:=by cases op<;>simp[PT,CU]<;>rfl
def EqE(e e':Env):Prop:=∀t,cV e t=cV e' t
theorem EqE.put{e e':Env}(h:EqE e e')(d:Option Nat)(x:A):EqE (put e d x) (put e' d x):=by intro t;cases d with|none=>exact h t|some d=>simp[Ev.put,cV];rw[h t]
theorem EqE.opnd{e e':Env}(h:EqE e e')(x:Operand):opnd e x=opnd e' x:=by cases x<;>simp[Ev.opnd];exact h _
theorem EqE.agree{e e':Env}(h:EqE e e')(l:List Operand):iG l e e':=fun x _=>h.opnd x
theorem EqE.wants{e e':Env}(h:EqE e e')(g:Option (Nat×Bool)):wants e g=wants e' g:=by cases g with|none=>rfl|some p=>simp[Ev.wants];rw[h]
theorem EqE.any{T:Tb}{ov:Orc}{e e':Env}(h:EqE e e')(H:aF)(op:Op):fF T ov ⟨e,H⟩ op=fF T ov ⟨e',H⟩ op:=CN (h.agree _)
theorem EqE.free{T:Tb}{q:eK}{e e':Env}(h:EqE e e')(H:aF)(op:Op):eN T q ⟨e,H⟩ op=eN T q ⟨e',H⟩ op:=by unfold eN;rw[mA (h.agree _)];cases calls e' op with|some fa=>grind|none=>cases op with|buildSlice t n ps=>simp[wV (h.agree _)]|_=>exact l8 (h.agree _)
theorem EqE.again{T:Tb}{e e':Env}(h:EqE e e')(H:aF)(m:MOp):nT T ⟨e,H⟩ m=nT T ⟨e',H⟩ m:=by unfold nT;rw[h.wants,mA (h.agree _)];cases Ev.wants e' m.guard with|none=>rfl|some b=>cases b with|false=>rfl|true=>cases calls e' m.op with|some fa=>grind|none=>rw[l8 (h.agree _)];cases m.dst with|none=>rfl|some d=>simp[h d]
theorem EqE.againAll{T:Tb}{e e':Env}(h:EqE e e')(H:aF):∀ms,againAll T ⟨e,H⟩ ms=againAll T ⟨e',H⟩ ms|[]=>rfl|m::ms=>by unfold Ev.againAll;rw[h.again,h.againAll H ms]
theorem EqE.keep{e e':Env}(h:EqE e e')(l:List Nat):dT e l=dT e' l:=rG fun s _=>h s
def tP(l:List Nat):Nat:=l.foldr (fun s m=>Nat.lor (Nat.shiftLeft 1 s) m) 0
noncomputable def IH(e:Env):Nat->Env:=List.rec (fun _=>[]) (fun p _ ih m=>Bool.rec (Bool.rec (ih m) (p::ih (Nat.xor m (Nat.shiftLeft 1 p.1))) (Nat.beq (Nat.land (Nat.shiftRight m p.1) 1) 1)) [] (Nat.beq m 0)) e
theorem tb1(s t:Nat):(1<<<s).testBit t=decide (s=t):=by rw[Nat.shiftLeft_eq,Nat.one_mul,Nat.testBit_two_pow]
theorem u5:∀(l:List Nat) (t:Nat),(tP l).testBit t=decide (t∈l)|[],t=>by simp[tP]|s::l,t=>by have ih:=u5 l t;show(Nat.lor (Nat.shiftLeft 1 s) (tP l)).testBit t=_;have h1:Nat.lor (Nat.shiftLeft 1 s) (tP l)=(1<<<s)|||tP l:=rfl;rw[h1,Nat.testBit_or,tb1];grind
theorem tL:∀(e:Env) (m t:Nat),cV (IH e m) t=if m.testBit t then cV e t else none|[],m,t=>by show cV [] t=_;simp[cV]|(s,x)::e,m,t=>by show cV (Bool.rec (Bool.rec (IH e m) ((s,x)::IH e (Nat.xor m (Nat.shiftLeft 1 s))) (Nat.beq (Nat.land (Nat.shiftRight m s) 1) 1)) [] (Nat.beq m 0)) t=_;(have hbit:Nat.beq (Nat.land (Nat.shiftRight m s) 1) 1=m.testBit s:=by have h1:Nat.land (Nat.shiftRight m s) 1=(m>>>s)&&&1:=rfl;rw[h1,Nat.testBit_eq_decide_div_mod_eq,Nat.shiftRight_eq_div_pow];cases hh:Nat.beq (m/2^s%2) 1 with|true=>simp_all|false=>(have:¬m/2^s%2=1:=fun e=>by simp_all);simp_all);rw[hbit];have h2:Nat.xor m (Nat.shiftLeft 1 s)=m^^^(1<<<s):=rfl;cases h0:Nat.beq m 0 with|true=>obtain rfl:=Nat.eq_of_beq_eq_true h0;simp[cV]|false=>cases hb:Nat.testBit m s with|false=>rw[tL e m t];by_cases hst:s=t;{simp_all};{simp[sE,if_neg hst]}|true=>rw[sE,sE];by_cases hst:s=t;{simp_all};{rw[tL e _ t,h2,Nat.testBit_xor,tb1];simp_all}
theorem aAN(e e':Env)(h:EqE e e')(l:List Nat):EqE (IH e (tP l)) (dT e' l):=by intro t;rw[tL,iW,u5,h t];simp
def aRg:Option St->Option St->Prop|some a,some b=>EqE a.env b.env/\a.H=b.H|none,none=>True|_,_=>False
def WJ:Option (Ex×St)->Option (Ex×St)->Prop|some a,some b=>a.1=b.1/\EqE a.2.env b.2.env/\a.2.H=b.2.H|none,none=>True|_,_=>False
noncomputable def Q1(k:Nat->St->Option St)(m:MOp)(x:Operand)(n:Nat)(st:St):Option St:=Option.rec none (fun a=>k (n-1) ⟨put st.env m.dst a,st.H⟩) (BS st.env x)
noncomputable def rP(T:Tb)(q:eK)(o:Orc)(k:Nat->St->Option St)(m:MOp)(n:Nat)(st:St):Option St:=match n with|0=>(match XF T st.env st.H o m.op with|some (a,H')=>k 0 ⟨put st.env m.dst a,H'⟩|none=>none)|n+1=>match PT T q st m.op with|some a=>k n ⟨put st.env m.dst a,st.H⟩|none=>none
noncomputable def RA(T:Tb)(q:eK)(o:Orc)(k:Nat->St->Option St)(m:MOp)(n:Nat)(st:St):Option St:=match m.op with|.move x=>Q1 k m x n st|.assign x=>Q1 k m x n st|_=>rP T q o k m n st
theorem aBy(T:Tb)(q:eK)(o:Orc)(k:Nat->St->Option St)(m:MOp)(n:Nat)(st:St):RA T q o k m n st=rP T q o k m n st:=by(have key:∀x,(m.op=.move x\/m.op=.assign x)->Q1 k m x n st=rP T q o k m n st:=by intro x hx;unfold Q1 rP;cases n with|zero=>(have h1:XF T st.env st.H o m.op=(opnd st.env x).map fun a=>(a,st.H):=by rw[P8];rcases hx with hx|hx<;>rw[hx]<;>rfl);simp[h1,bI];cases opnd st.env x<;>rfl|succ n=>(have h1:PT T q st m.op=opnd st.env x:=by rw[JY];rcases hx with hx|hx<;>rw[hx]<;>rfl);simp[h1,bI];cases opnd st.env x<;>rfl);unfold RA;split;{simp_all};{simp_all};simp
noncomputable def opF(T:Tb)(q:eK)(o:Orc)(k:Nat->St->Option St)(m:MOp)(n:Nat)(st:St):Option St:=match m.guard with|none=>RA T q o k m n st|some g=>match wants st.env (some g)with|none=>none|some false=>k (n-1) ⟨put st.env m.dst (.v undef),st.H⟩|some true=>RA T q o k m n st
noncomputable def pU(T:Tb)(q:eK)(o:Orc)(ms:List MOp):Nat->St->Option St:=List.rec (fun _ st=>some st) (fun m _ k=>opF T q o k m) ms
theorem lW(T:Tb)(q:eK)(o:Orc):∀(ms:List MOp) (n:Nat) (e e':Env) (H:aF),EqE e e'->aRg (pU T q o ms n ⟨e,H⟩) (bE T q o n ms ⟨e',H⟩)|[],n,e,e',H,he=>by exact⟨he,rfl⟩|m::ms,n,e,e',H,he=>by show aRg (opF T q o (pU T q o ms) m n ⟨e,H⟩) _;(have hrun:bE T q o n (m::ms) ⟨e',H⟩=(match wants e' m.guard with|none=>none|some false=>bE T q o (n-1) ms ⟨put e' m.dst (.v undef),H⟩|some true=>match n with|n+1=>(match eN T q ⟨e',H⟩ m.op with|some a=>bE T q o n ms ⟨put e' m.dst a,H⟩|none=>none)|0=>match fF T o ⟨e',H⟩ m.op with|some (a,H')=>bE T q o 0 ms ⟨put e' m.dst a,H'⟩|none=>none):=by cases n<;>rw[bE]<;>cases wants e' m.guard with|none=>rfl|some b=>cases b<;>rfl);(have hop:opF T q o (pU T q o ms) m n ⟨e,H⟩=(match wants e m.guard with|none=>none|some false=>pU T q o ms (n-1) ⟨put e m.dst (.v undef),H⟩|some true=>rP T q o (pU T q o ms) m n ⟨e,H⟩):=by unfold opF;simp[aBy];cases hg:m.guard with|none=>rfl|some g=>rfl);rw[hrun,hop,he.wants];cases wants e' m.guard with|none=>trivial|some b=>cases b with|false=>exact lW T q o ms _ _ _ H (he.put _ _)|true=>simp[rP];cases n with|zero=>(simp[P8,he.any];cases fF T o ⟨e',H⟩ m.op with|none=>trivial|some r=>exact lW T q o ms _ _ _ _ (he.put _ _))|succ n=>simp[JY,he.free];cases eN T q ⟨e',H⟩ m.op with|none=>trivial|some r=>exact lW T q o ms _ _ _ _ (he.put _ _)
noncomputable def aSz(rec:M->St->Option (Ex×St))(a b:M)(st:St):Option (Ex×St):=match rec a st with|some (.go,st')=>rec b st'|r=>r
noncomputable def aJo(rec:M->St->Option (Ex×St))(c:Operand)(a b:M)(st:St):Option (Ex×St):=match BS st.env c with|some (.v (.bool t))=>rec (bif t then a else b) st|_=>none
noncomputable def aBo(rec:M->St->Option (Ex×St))(id:Nat)(a:M)(st:St):Option (Ex×St):=match rec a st with|some (.out j,st')=>bif Nat.beq j id then some (.go,st')else some (.out j,st')|r=>r
noncomputable def aJm(rec:M->St->Option (Ex×St))(a:M)(st:St):Option (Ex×St):=match rec a st with|some (.go,st')=>rec (.loop a) st'|r=>r
noncomputable def rfF(o:Orc)(g:Operand)(nt:Nat)(ps sl:List Nat)(a b:M)(st:St):Option (Ex×St):=match(BS st.env g).bind callee with|some (.fn f,fs,caps)=>(match o (.fn f) (fs++[.yl st.H.length]++caps) (st.H++[some (fC nt ps a b (dT st.env sl))])with|some (_,H')=>(match pending H' st.H.length with|some ex=>some (ex,⟨st.env,H'.set st.H.length none⟩)|none=>none)|none=>none)|_=>none
def goF(r:Option St):Option (Ex×St):=match r with|some st'=>some (.go,st')|none=>none
theorem QH{r r':Option St}(h:aRg r r'):WJ (goF r) (match(generalizing:=false) r' with|some st'=>some (.go,st')|none=>none):=by cases r<;>cases r'<;>first|exact h|exact⟨rfl,h⟩
noncomputable def kO(T:Tb)(q:eK)(o:Orc)(rec:M->St->Option (Ex×St)):M->St->Option (Ex×St)|.skip,st=>some (.go,st)|.reg keep ops free,st=>goF (pU T q o ops free ⟨IH st.env (tP keep),st.H⟩)|.ops ops,st=>goF (pU T q o ops 0 st)|.again ops,st=>bif againAll T st ops then some (.go,st)else none|.seq a b,st=>aSz rec a b st|.cond c a b,st=>aJo rec c a b st|.block id a,st=>aBo rec id a st|.loop a,st=>aJm rec a st|.rf g nt ps sl a b,st=>rfF o g nt ps sl a b st|.exit id,st=>some (.out id,st)|.ret,st=>some (.back,st)|.bad,_=>none
noncomputable def uE(T:Tb)(q:eK)(o:Orc)(n:Nat):M->St->Option (Ex×St):=Nat.rec (fun _ _=>none) (fun _ rec=>kO T q o rec) n
theorem PB{rec rec':M->St->Option (Ex×St)}(hrec:∀m e e' H,EqE e e'->WJ (rec m ⟨e,H⟩) (rec' m ⟨e',H⟩)){r r':Option (Ex×St)}(h:WJ r r')(b:M):WJ (match(generalizing:=false) r with|some (.go,st')=>rec b st'|r=>r) (match(generalizing:=false) r' with|some (.go,st')=>rec' b st'|r=>r):=by cases r with|none=>(cases r' with|none=>omega|some x=>exact h.elim)|some x=>cases r' with|none=>exact h.elim|some y=>obtain⟨e1,s1,H1⟩:=x;obtain⟨e2,s2,H2⟩:=y;obtain⟨rfl,h2,h3⟩:=h;subst h3;cases e1 with|go=>simp_all|out id=>exact⟨rfl,h2,rfl⟩|back=>exact⟨rfl,h2,rfl⟩
theorem rX(T:Tb)(q:eK)(o:Orc):∀(n:Nat) (m:M) (e e':Env) (H:aF),EqE e e'->WJ (uE T q o n m ⟨e,H⟩) (aX T q o n m ⟨e',H⟩)|0,m,e,e',H,he=>by rw[aX];trivial|n+1,m,e,e',H,he=>by show WJ (kO T q o (uE T q o n) m ⟨e,H⟩) _;have ih:=rX T q o n;cases m with|skip=>simp only[kO,aX];exact⟨rfl,he,rfl⟩|exit id=>simp only[kO,aX];exact⟨rfl,he,rfl⟩|ret=>simp only[kO,aX];exact⟨rfl,he,rfl⟩|bad=>simp only[kO,aX];trivial|reg keep ops free=>simp only[kO,aX];exact QH (lW T q o ops free _ _ H (aAN e e' he keep))|ops ops=>simp only[kO,aX];exact QH (lW T q o ops 0 _ _ H he)|again ops=>(simp only[kO,aX,he.againAll];cases againAll T ⟨e',H⟩ ops with|true=>exact⟨rfl,he,rfl⟩|false=>trivial)|seq a b=>simp only[kO,aSz,aX];exact PB ih (ih a e e' H he) b|loop a=>simp only[kO,aJm,aX];exact PB ih (ih a e e' H he) (.loop a)|cond c a b=>(simp only[kO,aJo,bI,aX,he.opnd];cases opnd e' c with|none=>trivial|some x=>cases x with|v y=>(cases y with|bool t=>simp_all|_=>trivial)|_=>trivial)|block id a=>(simp only[kO,aBo,aX];have h:=ih a e e' H he;revert h;generalize uE T q o n a ⟨e,H⟩=r;generalize aX T q o n a ⟨e',H⟩=r';intro h;cases r with|none=>(cases r' with|none=>omega|some x=>exact h.elim)|some x=>cases r' with|none=>exact h.elim|some y=>obtain⟨e1,s1,H1⟩:=x;obtain⟨e2,s2,H2⟩:=y;obtain⟨rfl,h2,h3⟩:=h;simp only at h2 h3;subst h3;cases e1 with|go=>exact⟨rfl,h2,rfl⟩|back=>exact⟨rfl,h2,rfl⟩|out j=>cases hb:Nat.beq j id<;>simp[hb,cond_true]<;>exact⟨rfl,h2,rfl⟩)|rf g nt ps sl a b=>simp only[kO,rfF,bI,aX,he.opnd,he.keep];cases(opnd e' g).bind callee with|none=>trivial|some r=>obtain⟨t,fs,caps⟩:=r;cases t with|yl b=>trivial|fn f=>simp only;cases o (.fn f) (fs++[.yl H.length]++caps) (H++[some (fC nt ps a b (dT e' sl))])with|none=>trivial|some r=>simp only;cases pending r.2 H.length with|none=>trivial|some ex=>exact⟨rfl,he,rfl⟩
theorem L5{T:Tb}{e e':Env}{H:aF}(h:EqE e e')(v:ResultVar):qZ T ⟨e,H⟩ v=qZ T ⟨e',H⟩ v:=by cases v<;>simp[qZ,h _]
theorem zK{T:Tb}{e e':Env}{H:aF}(h:EqE e e'):∀l,nH T ⟨e,H⟩ l=nH T ⟨e',H⟩ l|[]=>rfl|v::l=>by unfold nH;rw[L5 h,zK h l]
noncomputable def qY(C:Ctx)(q:eK)(o:Orc)(n:Nat)(m:MFn)(as:List A)(H:aF):Option (A×aF):=bif Nat.ble as.length m.nt then match uE C.T q o n m.body ⟨jJ 0 as,H⟩with|some (ex,st)=>(match ex with|.out _=>none|_=>match dG C.T st m.res with|some a=>some (a,st.H)|none=>none)|none=>none else none
theorem yM(C:Ctx)(q:eK)(o:Orc)(n:Nat)(m:MFn)(as:List A)(H:aF):qY C q o n m as H=d7 C q o n m as H:=by unfold qY d7;by_cases h:as.length<=m.nt;{rw[if_pos h,Nat.ble_eq_true_of_le h];have hs:=rX C.T q o n m.body (jJ 0 as) (jJ 0 as) H (fun _=>rfl);revert hs;generalize uE C.T q o n m.body ⟨jJ 0 as,H⟩=r;generalize aX C.T q o n m.body ⟨jJ 0 as,H⟩=r';intro hs;cases r with|none=>(cases r' with|none=>rfl|some x=>exact hs.elim)|some x=>cases r' with|none=>exact hs.elim|some y=>obtain⟨e1,s1,H1⟩:=x;obtain⟨e2,s2,H2⟩:=y;obtain⟨rfl,h2,h3⟩:=hs;subst h3;(have hr:dG C.T ⟨s1,H1⟩ m.res=dG C.T ⟨s2,H1⟩ m.res:=by unfold dG;rw[zK h2]);cases e1<;>simp[hr]<;>rfl};{rw[if_neg h];cases hb:Nat.ble as.length m.nt with|true=>exact absurd (Nat.le_of_ble_eq_true hb) h|false=>rfl}
noncomputable def xB(T:Tb)(q:eK)(o:Orc)(n:Nat)(b:Nat)(as:List A)(H:aF):Option (A×aF):=match bA H b with|some r=>if r.s=0/\as.length=r.ps.length then match uE T q o n r.a ⟨dS r.ps as (dS r.sl r.vs []),H⟩with|some (.go,s1)=>(match bA s1.H b with|some r1=>if r1.s=0 then match uE T q o n r.b ⟨s1.env,s1.H.set b (some (r1.blk 1 r1.p))⟩with|some (ex,s2)=>(match bA s2.H b with|some r2=>(match ex with|.go=>some (.v (.bool true),s2.H.set b (some (r2.blk 0 0)))|ex=>some (.v (.bool false),s2.H.set b (some (r2.blk 2 (IG ex)))))|none=>none)|none=>none else none|none=>none)|_=>none else none|none=>none
theorem HC(T:Tb)(q:eK)(o:Orc)(n:Nat)(b:Nat)(as:List A)(H:aF):xB T q o n b as H=jI T q o n b as H:=by unfold xB jI;cases bA H b with|none=>rfl|some r=>simp only;split;{have hs:=rX T q o n r.a (dS r.ps as (dS r.sl r.vs [])) (dS r.ps as (dS r.sl r.vs [])) H (fun _=>rfl);revert hs;generalize uE T q o n r.a ⟨dS r.ps as (dS r.sl r.vs []),H⟩=x;generalize aX T q o n r.a ⟨dS r.ps as (dS r.sl r.vs []),H⟩=y;intro hs;cases x with|none=>(cases y with|none=>rfl|some y=>exact hs.elim)|some x=>cases y with|none=>exact hs.elim|some y=>obtain⟨e1,s1,H1⟩:=x;obtain⟨e2,s2,H2⟩:=y;obtain⟨rfl,h2,h3⟩:=hs;subst h3;cases e1 with|out id=>rfl|back=>rfl|go=>simp only;cases bA H1 b with|none=>rfl|some r1=>simp only;split;{have hs:=rX T q o n r.b s1 s2 (H1.set b (some (r1.blk 1 r1.p))) h2;revert hs;generalize uE T q o n r.b ⟨s1,H1.set b (some (r1.blk 1 r1.p))⟩=x;generalize aX T q o n r.b ⟨s2,H1.set b (some (r1.blk 1 r1.p))⟩=y;intro hs;cases x with|none=>(cases y with|none=>rfl|some y=>exact hs.elim)|some x=>cases y with|none=>exact hs.elim|some y=>obtain⟨e3,s3,H3⟩:=x;obtain⟨rfl,h4,h5⟩:=hs;grind};simp};simp
noncomputable def OI(C:Ctx)(n:Nat)(qo:eK×Orc):eK×Orc:=(fun f as=>match C.X f as with|some r=>some r|none=>match C.B f with|none=>none|some m=>match qY C qo.1 qo.2 n m as []with|some (a,H)=>qC m.mode H a|none=>none,fun g as H=>match g with|.fn f=>(match C.XO f with|some g=>g as H|none=>bif oB C f then match C.B f with|none=>none|some m=>qY C qo.1 qo.2 n m as H else bif AB C f then match C.B f with|none=>none|some m=>I4 H.length (qY C qo.1 qo.2 n m as H)else match dZ H as with|some as'=>(match qo.1 f as' with|some r=>if(as.all shut)||iP r then some (r,H)else none|none=>none)|none=>none)|.yl b=>xB C.T qo.1 qo.2 n b as H)
noncomputable def m8(C:Ctx)(n:Nat):eK×Orc:=Nat.rec (fun _ _=>none,fun _ _ _=>none) (fun n qo=>OI C n qo) n
theorem wN(C:Ctx):∀n,m8 C n=(aS C n,aS.callO C n)|0=>by refine Prod.ext ?_ ?_;{funext f as;exact(by simp[aS]:(none)=aS C 0 f as)};{funext g as H;exact(by cases g<;>simp[aS.callO]:(none)=aS.callO C 0 g as H)}|n+1=>by show OI C n (m8 C n)=_;rw[wN C n];unfold OI;refine Prod.ext ?_ ?_;{simp[yM];all_goals rfl};{funext g as H;cases g with|fn f=>simp only[yM];all_goals rfl|yl b=>simp[aS.callO,HC]}
theorem aW{C:Ctx}{f:FuncId}{as:List A}{r:A}(n:Nat)(h:(m8 C n).1 f as=some r):EvQ C f as r:=⟨n,by rw[wN]at h;omega⟩
def aBz(_:FuncId)(_:List A):Option A:=none
theorem aCH{T:Tb}{P:Program}:QOk T P aBz:=fun _ _ _ h=>by cases h
def TP(_:FuncId):Option (List A->aF->Option (A×aF)):=none
theorem aCT{T:Tb}{P:Program}:∀f g as H x H',TP f=some g->g as H=some (x,H')->oQ T P f as H x H':=fun _ _ _ _ _ _ h=>by cases h
def aUc(_:Nat):Bool:=false
