/- Steps, in plain. -/
import Derived.Test.YtfkegfjggibdhaaGreatDoorN15
set_option linter.all false
namespace Go.Proofs.YtfkegfjggibdhaaGreatDoor.Ev
open Go Go.RowKit
structure Sp where
 kind:Int
 node:Int
 line:Int
 m:Mg
structure Sp.Ok(x:Sp):Prop where
 kind:0≤x.kind∧x.kind<256
 node:0≤x.node∧x.node<256
 line:0≤x.line∧x.line<256
 m:x.m.Ok
abbrev cS(x:Sp):List A:=[I8 x.kind,I8 x.node,I8 x.line,I8 x.m.kind,I8 x.m.src,I8 x.m.dst,I8 x.m.line,I8 x.m.asker,I8 x.m.acks,Bo x.m.alone,I8 x.m.d.a,I8 x.m.d.b,I8 x.m.d.c,I8 x.m.d.d]
attribute [go_sem] cS
abbrev eS(x:Sp):A:=.agg (cS x)
def Mg.eqB(x y:Mg):Bool:=decide (x.kind=y.kind/\x.src=y.src/\x.dst=y.dst/\x.line=y.line/\x.asker=y.asker/\x.acks=y.acks/\x.alone=y.alone/\x.d.a=y.d.a/\x.d.b=y.d.b/\x.d.c=y.d.c/\x.d.d=y.d.d)
theorem Mg.eqB_iff(x y:Mg):x.eqB y=true↔x=y:=by unfold Mg.eqB;constructor;{obtain⟨a,b,c,d,e,f,g,h,i,j,k⟩:=x;simp_all};simp_all
def Sp.eqB(x y:Sp):Bool:=decide (x.kind=y.kind/\x.node=y.node/\x.line=y.line)&&x.m.eqB y.m
def sX(x:Mg):List Mg->Bool|[]=>false|y::l=>bif y.eqB x then true else sX x l
theorem zL{x:Mg}:∀{l:List Mg},sX x l=true↔x∈l|[]=>by simp[sX]|y::l=>by rw[sX];cases h:y.eqB x with|true=>rw[Mg.eqB_iff]at h;simp_all|false=>(have:¬y=x:=fun e=>by rw[(Mg.eqB_iff _ _).2 e]at h;cases h);rw[cg,zL];grind
def dd:List Mg->List Mg->List Mg|_,[]=>[]|s,m::l=>bif sX m s then dd s l else m::dd (s++[m]) l
theorem NV{x:Mg}:∀{l s:List Mg},x∈dd s l↔x∈l/\x∉s|[],s=>by simp[dd]|m::l,s=>by rw[dd];cases h:sX m s with|true=>have hm:=zL.1 h;rw[bq,NV];constructor;{simp_all};grind|false=>(have hm:m∉s:=fun e=>by rw[zL.2 e]at h;cases h);rw[cg,jl,NV];constructor;{grind};grind
def zMg:Mg:=⟨0,0,0,0,0,0,false,⟨0,0,0,0⟩⟩
def nA(k:Int)(c:Nat):List Sp:=(List.range c).map fun i:Nat=>⟨k,(i:Int),0,zMg⟩
def uB(L i:Nat):List Sp:=(List.range L).map fun j:Nat=>⟨4,(i:Int),(j:Int),zMg⟩
def evS(c L:Nat):List Sp:=(List.range c).flatMap (uB L)
def BX(ms:List Mg):List Sp:=ms.map fun m=>⟨5,0,0,m⟩
def AG(c L:Nat)(ms:List Mg):List Sp:=nA 1 c++(nA 2 c++(nA 3 c++(evS c L++BX (dd [] ms))))
def OQ(c L:Nat)(x:Sp):Prop:=((x.kind=1\/x.kind=2\/x.kind=3)/\x.m=zMg/\x.node<c/\x.line=0)\/(x.kind=4/\x.m=zMg/\x.node<c/\x.line<L)\/(x.kind=5/\x.node=0/\x.line=0)
theorem VT{k:Int}{c:Nat}{x:Sp}:x∈nA k c↔x.kind=k/\x.m=zMg/\(0<=x.node/\x.node<c)/\x.line=0:=by unfold nA;simp;constructor;{grind};{obtain⟨a,b,e,m⟩:=x;rintro⟨rfl,rfl,⟨h0,h1⟩,rfl⟩;simp at h0 h1;exact⟨b.toNat,by omega,by rw[bw h0]⟩}
theorem aF8{c L:Nat}{x:Sp}:x∈evS c L↔x.kind=4/\x.m=zMg/\(0<=x.node/\x.node<c)/\(0<=x.line/\x.line<L):=by unfold evS uB;simp;constructor;{grind};{obtain⟨a,b,e,m⟩:=x;rintro⟨rfl,rfl,⟨h0,h1⟩,⟨h2,h3⟩⟩;simp at h0 h1 h2 h3;exact⟨b.toNat,by omega,e.toNat,by omega,by grind⟩}
theorem W2{ms:List Mg}{x:Sp}:x∈BX ms↔x.kind=5/\x.node=0/\x.line=0/\x.m∈ms:=by unfold BX;constructor;{grind};{obtain⟨a,b,e,m⟩:=x;simp_all}
theorem B9{c L:Nat}{ms:List Mg}{x:Sp}:x∈AG c L ms↔(((x.kind=1\/x.kind=2\/x.kind=3)/\x.m=zMg/\(0<=x.node/\x.node<c)/\x.line=0)\/(x.kind=4/\x.m=zMg/\(0<=x.node/\x.node<c)/\(0<=x.line/\x.line<L))\/(x.kind=5/\x.node=0/\x.line=0/\x.m∈ms)):=by unfold AG;simp[VT,aF8,W2,NV];constructor;{rintro(h|h|h|h|h);{simp_all};{simp_all};{simp_all};{simp_all};simp_all};grind
def dis(e:Int):Bool:=decide (e=312)||(decide (e=6)||decide (e=272))
def okS(E:Sp->Int)(c L:Nat)(ms:List Mg):List Sp:=(AG c L ms).filter fun x=>!dis (E x)
structure Esp(E:Sp→Int)(c L:Nat)(ms:List Mg):Prop where
 form:∀ x:Sp,x.Ok→¬ OQ c L x→E x=312
 none:∀ x:Sp,x.Ok→x.kind=5→x.m ∉ ms→dis (E x)=true
theorem QR{E:Sp->Int}{c L:Nat}{ms:List Mg}(h:Esp E c L ms){x:Sp}(ok:x.Ok):x∈okS E c L ms↔dis (E x)=false:=by unfold okS;rw[jr,Bool.not_eq_true'];refine⟨fun h=>h.2,fun hx=>⟨?_,hx⟩⟩;(have hf:=gu fun hn=>by rw[h.form x ok hn]at hx;cases hx);have ho:=ok.node;have hl:=ok.line;rw[B9];rcases hf with⟨a,b,e,f⟩|⟨a,b,e,f⟩|⟨a,b,e⟩;{simp_all};{simp_all};{refine .inr (.inr ⟨a,b,e,gu fun hm=>?_⟩);rw[h.none x ok a hm]at hx;cases hx}
