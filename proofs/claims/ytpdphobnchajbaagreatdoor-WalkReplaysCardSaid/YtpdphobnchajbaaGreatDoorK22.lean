/- Steps, in plain. -/
import Derived.Test.YtpdphobnchajbaaGreatDoorK19
set_option linter.all false
namespace Go.Proofs.YtpdphobnchajbaaGreatDoor.Ev
open Go Go.RowKit
structure Sp where
 kind:Int
 node:Int
 line:Int
 m:Mg
structure Sp.Ok(x:Sp):Prop where
 kind:0≤x.kind∧x.kind<256
 node:0≤x.node∧x.node<256
 line:0≤x.line∧x.line<256
 m:x.m.Ok
abbrev cS(x:Sp):List A:=[I8 x.kind,I8 x.node,I8 x.line,I8 x.m.kind,I8 x.m.src,I8 x.m.dst,I8 x.m.line,I8 x.m.asker,I8 x.m.acks,Bo x.m.alone,I8 x.m.d.a,I8 x.m.d.b,I8 x.m.d.c,I8 x.m.d.d]
attribute [go_sem] cS
abbrev eS(x:Sp):A:=.agg (cS x)
def Mg.eqB(x y:Mg):Bool:=decide (x.kind=y.kind/\x.src=y.src/\x.dst=y.dst/\x.line=y.line/\x.asker=y.asker/\x.acks=y.acks/\x.alone=y.alone/\x.d.a=y.d.a/\x.d.b=y.d.b/\x.d.c=y.d.c/\x.d.d=y.d.d)
theorem Mg.eqB_iff(x y:Mg):x.eqB y=true↔x=y:=by unfold Mg.eqB;rw[decide_eq_true_iff];constructor;{obtain⟨a,b,c,d,e,f,g,h,i,j,k⟩:=x;obtain⟨a',b',c',d',e',f',g',h',i',j',k'⟩:=y;rintro⟨rfl,rfl,rfl,rfl,rfl,rfl,rfl,rfl,rfl,rfl,rfl⟩;rfl};{rintro rfl;exact⟨rfl,rfl,rfl,rfl,rfl,rfl,rfl,rfl,rfl,rfl,rfl⟩}
def sN(x:Mg):List Mg->Bool|[]=>false|y::l=>bif y.eqB x then true else sN x l
theorem zJ{x:Mg}:∀{l:List Mg},sN x l=true↔x∈l|[]=>by simp[sN]|y::l=>by rw[sN];cases h:y.eqB x with|true=>rw[Mg.eqB_iff]at h;subst h;simp|false=>(have:¬y=x:=fun e=>by rw[(Mg.eqB_iff _ _).2 e]at h;cases h);rw[cond_false,zJ,List.mem_cons];exact⟨.inr,fun e=>e.resolve_left fun e=>this e.symm⟩
def dd:List Mg->List Mg->List Mg|_,[]=>[]|s,m::l=>bif sN m s then dd s l else m::dd (s++[m]) l
theorem NU{x:Mg}:∀{l s:List Mg},x∈dd s l↔x∈l/\x∉s|[],s=>by simp[dd]|m::l,s=>by rw[dd];cases h:sN m s with|true=>have hm:=zJ.1 h;rw[cond_true,NU,List.mem_cons];constructor;{rintro⟨a,b⟩;exact⟨.inr a,b⟩};{rintro⟨rfl|a,b⟩;{exact absurd hm b};{exact⟨a,b⟩}}|false=>(have hm:m∉s:=fun e=>by rw[zJ.2 e]at h;cases h);rw[cond_false,List.mem_cons,NU,List.mem_cons,List.mem_append,List.mem_singleton];constructor;{rintro(rfl|⟨a,b⟩);{exact⟨.inl rfl,hm⟩};{exact⟨.inr a,fun e=>b (.inl e)⟩}};{rintro⟨rfl|a,b⟩;{exact .inl rfl};{by_cases e:x=m;{exact .inl e};{exact .inr ⟨a,fun e'=>e'.elim b e⟩}}}
def zMg:Mg:=⟨0,0,0,0,0,0,false,⟨0,0,0,0⟩⟩
def mL(k:Int)(c:Nat):List Sp:=(List.range c).map fun i:Nat=>⟨k,(i:Int),0,zMg⟩
def uS(L i:Nat):List Sp:=(List.range L).map fun j:Nat=>⟨4,(i:Int),(j:Int),zMg⟩
def evS(c L:Nat):List Sp:=(List.range c).flatMap (uS L)
def BJ(ms:List Mg):List Sp:=ms.map fun m=>⟨5,0,0,m⟩
def BA(c L:Nat)(ms:List Mg):List Sp:=mL 1 c++(mL 2 c++(mL 3 c++(evS c L++BJ (dd [] ms))))
def FF(c L:Nat)(x:Sp):Prop:=((x.kind=1\/x.kind=2\/x.kind=3)/\x.m=zMg/\x.node<c/\x.line=0)\/(x.kind=4/\x.m=zMg/\x.node<c/\x.line<L)\/(x.kind=5/\x.node=0/\x.line=0)
theorem U9{k:Int}{c:Nat}{x:Sp}:x∈mL k c↔x.kind=k/\x.m=zMg/\(0<=x.node/\x.node<c)/\x.line=0:=by unfold mL;simp only[List.mem_map,List.mem_range];constructor;{rintro⟨i,hi,rfl⟩;exact⟨rfl,rfl,⟨by simp,by simp;exact hi⟩,rfl⟩};{obtain⟨a,b,e,m⟩:=x;rintro⟨rfl,rfl,⟨h0,h1⟩,rfl⟩;simp only at h0 h1;exact⟨b.toNat,by omega,by rw[Int.toNat_of_nonneg h0]⟩}
theorem aKg{c L:Nat}{x:Sp}:x∈evS c L↔x.kind=4/\x.m=zMg/\(0<=x.node/\x.node<c)/\(0<=x.line/\x.line<L):=by unfold evS uS;simp only[List.mem_flatMap,List.mem_map,List.mem_range];constructor;{rintro⟨i,hi,j,hj,rfl⟩;exact⟨rfl,rfl,⟨by simp,by simp;exact hi⟩,⟨by simp,by simp;exact hj⟩⟩};{obtain⟨a,b,e,m⟩:=x;rintro⟨rfl,rfl,⟨h0,h1⟩,⟨h2,h3⟩⟩;simp only at h0 h1 h2 h3;exact⟨b.toNat,by omega,e.toNat,by omega,by rw[Int.toNat_of_nonneg h0,Int.toNat_of_nonneg h2]⟩}
theorem ZN{ms:List Mg}{x:Sp}:x∈BJ ms↔x.kind=5/\x.node=0/\x.line=0/\x.m∈ms:=by unfold BJ;simp only[List.mem_map];constructor;{rintro⟨m,hm,rfl⟩;exact⟨rfl,rfl,rfl,hm⟩};{obtain⟨a,b,e,m⟩:=x;rintro⟨rfl,rfl,rfl,h⟩;exact⟨m,h,rfl⟩}
theorem CU{c L:Nat}{ms:List Mg}{x:Sp}:x∈BA c L ms↔(((x.kind=1\/x.kind=2\/x.kind=3)/\x.m=zMg/\(0<=x.node/\x.node<c)/\x.line=0)\/(x.kind=4/\x.m=zMg/\(0<=x.node/\x.node<c)/\(0<=x.line/\x.line<L))\/(x.kind=5/\x.node=0/\x.line=0/\x.m∈ms)):=by unfold BA;simp only[List.mem_append,U9,aKg,ZN,NU,List.not_mem_nil,not_false_eq_true,and_true];constructor;{rintro(h|h|h|h|h);{exact .inl ⟨.inl h.1,h.2⟩};{exact .inl ⟨.inr (.inl h.1),h.2⟩};{exact .inl ⟨.inr (.inr h.1),h.2⟩};{exact .inr (.inl h)};{exact .inr (.inr h)}};{rintro(⟨h|h|h,h'⟩|h|h);{exact .inl ⟨h,h'⟩};{exact .inr (.inl ⟨h,h'⟩)};{exact .inr (.inr (.inl ⟨h,h'⟩))};{exact .inr (.inr (.inr (.inl h)))};{exact .inr (.inr (.inr (.inr h)))}}
def dis(e:Int):Bool:=decide (e=312)||(decide (e=6)||decide (e=272))
def okS(E:Sp->Int)(c L:Nat)(ms:List Mg):List Sp:=(BA c L ms).filter fun x=>!dis (E x)
structure Esp(E:Sp→Int)(c L:Nat)(ms:List Mg):Prop where
 form:∀ x:Sp,x.Ok→¬ FF c L x→E x=312
 none:∀ x:Sp,x.Ok→x.kind=5→x.m ∉ ms→dis (E x)=true
