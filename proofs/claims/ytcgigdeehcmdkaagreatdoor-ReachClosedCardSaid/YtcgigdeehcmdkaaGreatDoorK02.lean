/- Values alike, read at a type: the evaluator's answer is the model's. -/
import Derived.Test.YtcgigdeehcmdkaaGreatDoorK01
import Derived.WalkSpells
set_option linter.all false
namespace Go.Proofs.YtcgigdeehcmdkaaGreatDoor.Ev
open Go Go.RowKit
variable{P:Program}{T:Tb}
def aLJ(k:K)(xs:List Value)(x:Value):Prop:=(k.agg=true->x=.agg xs.toArray)/\(k.agg=false->xs=[x])
theorem kY{t:TypeId}{ty:Ty}(F:iA P t ty)(w:World)(xs:List Value)(off:Nat)(h:off+ty.size<=xs.length)(h0:0<ty.size) (h1:ty.k.agg=false->ty.size=1):∃y,(part t xs.toArray off).run P w=.ok y w/\aLJ ty.k ((xs.drop off).take ty.size) y:=by simp[part,F.run_isAgg w];by_cases ha:ty.k.agg=true;{simp[ha];exact⟨.agg ((xs.drop off).take ty.size).toArray,by simp[F.run_sizeOf w],(fun _=>rfl),(fun h=>by simp_all)⟩};{simp at ha;have h2:=h1 ha;(have hlt:off<xs.length:=by omega);refine⟨xs[off],by simp_all,(fun h=>by simp_all),(fun _=>?_)⟩;rw[h2,List.drop_eq_getElem_cons hlt,List.take_succ_cons,List.take_zero]}
theorem uY{α β:Type}(x:α)(l:List α)(b:β)(f:α->β->Sem (ForInStep β)):forIn (x::l) b f=f x b>>=fun r=>match r with|.done b=>pure b|.yield b=>forIn l b f:=by rw[List.forIn_cons];rfl
theorem RL.single{ρ:List Nat}{own:Nat->Prop}{w:World}{a:A}{ys:List Value}(h:RL ρ own w [a] ys):∃y,ys=[y]/\R ρ own w a y:=by obtain⟨x,xs,rfl,h1,h2⟩:=h;rw[RL]at h2;simp_all
theorem RL.exact_of{ρ:List Nat}{own:Nat->Prop}{w:World}{x:Value}{ys:List Value}(h:RL ρ own w [.v x] ys):ys=[x]:=by obtain⟨y,rfl,h1⟩:=h.single;rw[h1]
theorem E1(hT:TOk P T):∀(d:Nat) (t:TypeId) (ty:Ty) (xs ys:List A) (b:Bool),T t=some ty->eqT T d t xs ys=some b->ty.k.agg=false->xs.length=1:=by intro d t ty xs ys b hty h ha;cases d with|zero=>simp[eqT]at h|succ d=>unfold eqT at h;cases hk:ty.k with|struct fs=>simp[hk,K.agg]at ha|array n e=>simp[hk,K.agg]at ha|bool=>grind|int k=>grind|str=>grind|_=>simp_all
theorem aAG(hT:TOk P T){ρ:List Nat}{own:Nat→Prop}{w:World}:∀(d D:Nat) (t:TypeId) (ty:Ty) (xs ys:List A) (us vs:List Value) (u v:Value) (b:Bool),d≤D→T t=some ty→eqT T d t xs ys=some b →
  RL ρ own w xs us→RL ρ own w ys vs→aLJ ty.k us u→aLJ ty.k vs v→(Op.equalIn D t u v).run P w=.ok b w:=by
 intro d
 induction d with
 |zero=>intro D t ty xs ys us vs u v b _ _ h;simp[eqT]at h
 |succ d ih =>
  intro D t ty xs ys us vs u v b hD hty h hx hy hu hv
  obtain⟨D,rfl⟩:∃ D',D=D'+1:=⟨D-1,by omega⟩
  have hD':d≤D:=by omega
  have F:=hT.facts hty
  obtain⟨tyd,hd,hkd⟩:=F.desc
  unfold eqT at h
  simp only[hty]at h
  cases hk:ty.k with
  |bool =>
   simp only[hk]at h
   split at h
   ·rename_i p q
    obtain rfl:=Option.some.inj h
    obtain rfl:=hx.exact_of
    obtain rfl:=hy.exact_of
    obtain rfl:u=.bool p:=by have:=hu.2 (by simp[hk,K.agg]);simpa using this.symm
    obtain rfl:v=.bool q:=by have:=hv.2 (by simp[hk,K.agg]);simpa using this.symm
    rw[hk]at hkd
    cases tyd<;>simp[kOf]at hkd
    unfold Op.equalIn
    simp[run_underlying hd]
   ·cases h
  |int k =>
   simp only[hk]at h
   split at h
   ·rename_i k1 p k2 q
    split at h
    ·obtain rfl:=Option.some.inj h
     obtain rfl:=hx.exact_of
     obtain rfl:=hy.exact_of
     obtain rfl:u=.int k1 p:=by have:=hu.2 (by simp[hk,K.agg]);simpa using this.symm
     obtain rfl:v=.int k2 q:=by have:=hv.2 (by simp[hk,K.agg]);simpa using this.symm
     rw[hk]at hkd
     cases tyd<;>simp[kOf]at hkd
     unfold Op.equalIn
     simp[run_underlying hd, *]
    ·cases h
   ·cases h
  |str =>
   simp only[hk]at h
   split at h
   ·rename_i p q
    obtain rfl:=Option.some.inj h
    obtain rfl:=hx.exact_of
    obtain rfl:=hy.exact_of
    obtain rfl:u=.string p:=by have:=hu.2 (by simp[hk,K.agg]);simpa using this.symm
    obtain rfl:v=.string q:=by have:=hv.2 (by simp[hk,K.agg]);simpa using this.symm
    rw[hk]at hkd
    cases tyd<;>simp[kOf]at hkd
    unfold Op.equalIn
    simp[run_underlying hd]
   ·cases h
  |struct fs =>
   simp only[hk]at h
   split at h
   ·rename_i hpl
    obtain⟨-,hst⟩:=F.plain hpl
    rw[hk]at hkd
    cases tyd with
    |struct fds =>
     simp only[kOf,K.struct.injEq]at hkd
     obtain rfl:=hu.1 (by simp[hk,K.agg])
     obtain rfl:=hv.1 (by simp[hk,K.agg])
     have key:∀(fl:List Field) (b:Bool),HL T (eqT T d) (fl.map fun f=>(f.type,f.offset,f.name != "_")) xs ys=some b →
       (forIn (m:=Sem) fl ((none,()):Option Bool×Unit) fun(f:Field) _ =>
        if f.name≠ "_" then do
         let x ← part f.type us.toArray f.offset
         let y ← part f.type vs.toArray f.offset
         let r ← Op.equalIn D f.type x y
         if(!r)=true then pure (ForInStep.done (some false,()))else pure (ForInStep.yield (none,()))
        else pure (ForInStep.yield (none,()))).run P w=.ok (if b then(none,())else(some false,())) w:=by
      intro fl
      induction fl with
      |nil=>intro b hb;simp[HL]at hb;subst hb;simp
      |cons f fl ihf =>
       intro b hb
       rw[uY,Sem.run_bind]
       simp only[List.map_cons]at hb
       unfold HL at hb
       cases hft:T f.type with
       |none=>simp[hft]at hb
       |some fty =>
        simp only[hft]at hb
        by_cases hn:f.name= "_"
        ·simp only[hn,bne_self_eq_false,Bool.false_eq_true,if_false]at hb
         rw[if_neg (by simp[hn])]
         simp only[Sem.run_pure,Result.andThen_ok]
         exact ihf b hb
        ·have hn':(f.name != "_")=true:=by simpa using hn
         simp only[hn',if_true]at hb
         split at hb
         ·rename_i hsz
          cases h1:eqT T d f.type ((xs.drop f.offset).take fty.size) ((ys.drop f.offset).take fty.size)with
          |none=>simp[h1]at hb
          |some b1 =>
           cases h2:HL T (eqT T d) (fl.map fun f=>(f.type,f.offset,f.name != "_")) xs ys with
           |none=>simp[h1,h2]at hb
           |some b2 =>
            simp only[h1,h2,Option.some.injEq]at hb
            subst hb
            have F1:=hT.facts hft
            have hs1:fty.k.agg=false→fty.size=1:=fun ha=>by
             have:=E1 hT d f.type fty _ _ b1 hft h1 ha
             simp at this
             omega
            obtain⟨p,hp,hpm⟩:=kY F1 w us f.offset (by rw[hx.length];omega) hsz.2.2 hs1
            obtain⟨q,hq,hqm⟩:=kY F1 w vs f.offset (by rw[hy.length];omega) hsz.2.2 hs1
            have h3:=ih D f.type fty _ _ _ _ p q b1 hD' hft h1 ((hx.drop _).take _) ((hy.drop _).take _) hpm hqm
            rw[if_pos hn]
            simp only[Sem.run_bind,hp,hq,h3,Result.andThen_ok]
            cases b1
            ·simp
            ·simp only[Bool.not_true,Bool.false_eq_true,if_false,Sem.run_pure,Result.andThen_ok,Bool.true_and]
             exact ihf b2 h2
         ·cases hb
     have:=key fds.toList b (by rw[hkd];omega)
     unfold Op.equalIn
     simp only[Sem.run_bind,run_underlying hd,Result.andThen_ok,run_program,hst,Bool.false_eq_true,if_false]
     rw[← Array.forIn_toList]
     rw[this]
     cases b<;>simp
    |_=>simp[kOf]at hkd
   ·cases h
  |array n e =>
   simp only[hk]at h
   cases hte:T e with
   |none=>simp[hte]at h
   |some te =>
    simp only[hte]at h
    rw[hk]at hkd
    cases tyd with
    |array n' e' =>
     simp only[kOf,K.array.injEq]at hkd
     obtain⟨rfl,rfl⟩:=hkd
     obtain rfl:=hu.1 (by simp[hk,K.agg])
     obtain rfl:=hv.1 (by simp[hk,K.agg])
     have Fe:=hT.facts hte
     have key:∀(m i:Nat) (b:Bool),eqN (eqT T d) e' te.size m i xs ys=some b →
       (forIn (m:=Sem) (List.range' i m) ((none,()):Option Bool×Unit) fun(i:Nat) _=>do
         let x ← part e' us.toArray (i*te.size)
         let y ← part e' vs.toArray (i*te.size)
         let r ← Op.equalIn D e' x y
         if(!r)=true then pure (ForInStep.done (some false,()))else pure (ForInStep.yield (none,()))).run P w=.ok (if b then(none,())else(some false,())) w:=by
      intro m
      induction m with
      |zero=>intro i b hb;simp[eqN]at hb;subst hb;simp
      |succ m ihm =>
       intro i b hb
       rw[List.range'_succ,uY,Sem.run_bind]
       unfold eqN at hb
       split at hb
       ·rename_i hsz
        cases h1:eqT T d e' ((xs.drop (i*te.size)).take te.size) ((ys.drop (i*te.size)).take te.size)with
        |none=>simp[h1]at hb
        |some b1 =>
         cases h2:eqN (eqT T d) e' te.size m (i+1) xs ys with
         |none=>simp[h1,h2]at hb
         |some b2 =>
          simp only[h1,h2,Option.some.injEq]at hb
          subst hb
          have hs1:te.k.agg=false→te.size=1:=fun ha=>by
           have:=E1 hT d e' te _ _ b1 hte h1 ha
           simp at this
           omega
          obtain⟨p,hp,hpm⟩:=kY Fe w us (i*te.size) (by rw[hx.length];omega) hsz.2.2 hs1
          obtain⟨q,hq,hqm⟩:=kY Fe w vs (i*te.size) (by rw[hy.length];omega) hsz.2.2 hs1
          have h3:=ih D e' te _ _ _ _ p q b1 hD' hte h1 ((hx.drop _).take _) ((hy.drop _).take _) hpm hqm
          simp only[Sem.run_bind,hp,hq,h3,Result.andThen_ok]
          cases b1
          ·simp
          ·simp only[Bool.not_true,Bool.false_eq_true,if_false,Sem.run_pure,Result.andThen_ok,Bool.true_and]
           exact ihm (i+1) b2 h2
       ·cases hb
     have:=key n' 0 b h
     unfold Op.equalIn
     simp only[Sem.run_bind,run_underlying hd,Result.andThen_ok,Fe.run_sizeOf w]
     rw[Std.Legacy.Range.forIn_eq_forIn_range']
     simp only[Std.Legacy.Range.size,Nat.sub_zero,Nat.add_sub_cancel,Nat.div_one]
     rw[this]
     cases b<;>simp
    |_=>simp[kOf]at hkd
  |_=>simp[hk]at h
variable{P:Program}{T:Tb}
theorem lM(op:BinOp)(t:TypeId)(x y:Operand)(a b:Value)(w:World)(h1:∀p q,a=.agg p->b=.agg q->P.eqGuardType P.depth t=false)(h2:a=.nilIface->b=.nilIface->False):(eqGuard op t x y a b).run P w=.ok () w:=by unfold eqGuard;cases op<;>first|omega|(cases a<;>first|(simp;done)|(cases b<;>first|simp_all|omega|simp_all))
theorem aCU{op:BinOp}{x y r:Value}(t:TypeId)(w:World)(h:vR op x y=some r):(binOp op t x y).run P w=.ok r w:=by unfold vR at h;split at h;{rename_i k a k' b;cases op with|shl=>simp only at h;split at h;{cases h};{rename_i hb;obtain rfl:=Option.some.inj h;simp[binOp,Op.shift,hb]}|shr=>simp only at h;split at h;{cases h};{rename_i hb;obtain rfl:=Option.some.inj h;simp[binOp,Op.shift,hb]}|quo=>simp only at h;split at h;{rename_i hk;split at h;{cases h};{rename_i hb;obtain rfl:=Option.some.inj h;simp[binOp,hk,Op.intDiv,hb]}};simp_all|rem=>simp only at h;split at h;{rename_i hk;split at h;{cases h};{rename_i hb;obtain rfl:=Option.some.inj h;simp[binOp,hk,Op.intDiv,hb]}};simp_all|_=>simp only at h;split at h;{rename_i hk;subst hk;obtain rfl:=Option.some.inj h;simp[binOp,Op.intArith,Op.intBits,Op.intCmp]};simp_all};{rename_i a b;cases op with|add=>simp only at h;split at h;{cases h};{rename_i hb;obtain rfl:=Option.some.inj h;simp only[binOp,Op.stringOp,if_neg hb,Sem.run_pure]}|_=>simp only at h;first|(obtain rfl:=Option.some.inj h;simp[binOp,Op.stringOp])|cases h};simp_all
theorem V9{op:BinOp}{x y r:Value}(h:vR op x y=some r):(∀p q,x=.agg p->y=.agg q->False)/\(x=.nilIface->y=.nilIface->False):=by unfold vR at h;grind
theorem O8(t:TypeId){x y:Value}{b:Bool}{w:World}(h:(Op.equal t x y).run P w=.ok b w) (h1:∀k a k' b,x=.int k a->y=.int k' b->False) (h2:∀k a k' b,x=.float k a->y=.float k' b->False) (h3:∀k a a' k' b b',x=.complex k a a'->y=.complex k' b b'->False) (h4:∀a b,x=.string a->y=.string b->False):(binOp .eql t x y).run P w=.ok (.bool b) w/\(binOp .neq t x y).run P w=.ok (.bool !b) w:=by constructor<;>·unfold binOp;simp_all
variable{P:Program}{T:Tb}
theorem jF{t:TypeId}{x y:Value}{r:Bool}{w:World}(h:∀d,(Op.equalIn (d+1) t x y).run P w=.ok r w):(Op.equal t x y).run P w=.ok r w:=h 9999
set_option maxHeartbeats 400000 in theorem Y2 {ρ:List Nat}{own:Nat->Prop}{w:World}{t:TypeId}{d:TypeDesc}(hd:P.underlying t=some d){a b:A}{x y:Value}{r:Bool}(h:sE (kOf d) a b=some r) (ha:R ρ own w a x) (hb:R ρ own w b y):(Op.equal t x y).run P w=.ok r w/\(∀k a k' b,x=.int k a->y=.int k' b->False)/\(∀k a k' b,x=.float k a->y=.float k' b->False)/\(∀k a a' k' b b',x=.complex k a a'->y=.complex k' b b'->False)/\(∀a b,x=.string a->y=.string b->False)/\(∀p q,x=.agg p->y=.agg q->False)/\(x=.nilIface->y=.nilIface->False):=by(cases d<;>simp only[kOf,sE]at h<;>try simp_all);all_goals split at h<;>first|(cases h;done)|(simp only[R]at ha hb;obtain rfl:=Option.some.inj h;first|(obtain⟨g,cap,cur,e,fz,-,rfl,-⟩:=ha;obtain rfl:=hb;refine⟨jF (fun d=>by unfold Op.equalIn;simp[run_underlying hd]),?_⟩;simp;done)|(obtain⟨g,cap,cur,e,fz,-,rfl,-⟩:=hb;obtain rfl:=ha;refine⟨jF (fun d=>by unfold Op.equalIn;simp[run_underlying hd]),?_⟩;simp;done)|(rcases ha with⟨ha,-⟩|⟨g,off,cap,xs,rfl,-⟩;{omega};{obtain rfl:=hb;refine⟨jF (fun d=>by unfold Op.equalIn;simp[run_underlying hd]),?_⟩;simp})|(rcases hb with⟨hb,-⟩|⟨g,off,cap,xs,rfl,-⟩;{omega};{obtain rfl:=ha;refine⟨jF (fun d=>by unfold Op.equalIn;simp[run_underlying hd]),?_⟩;simp})|omega|omega|(obtain⟨g,off,xs,rfl,-⟩:=ha;obtain rfl:=hb;refine⟨jF (fun d=>by unfold Op.equalIn;simp[run_underlying hd]),?_⟩;simp)|(obtain⟨g,off,xs,rfl,-⟩:=hb;obtain rfl:=ha;refine⟨jF (fun d=>by unfold Op.equalIn;simp[run_underlying hd]),?_⟩;simp)|(obtain⟨xs,ys,rfl,-⟩:=ha;obtain rfl:=hb;refine⟨jF (fun d=>by unfold Op.equalIn;simp[run_underlying hd]),?_⟩;simp)|(obtain⟨xs,ys,rfl,-⟩:=hb;obtain rfl:=ha;refine⟨jF (fun d=>by unfold Op.equalIn;simp[run_underlying hd]),?_⟩;simp)|simp)
