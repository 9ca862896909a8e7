/- net: messages are sent, taken. -/
import Derived.Test.YtpdphobnchajbaaGreatDoorQ32
import Derived.Test.YtpdphobnchajbaaGreatDoorQ31
set_option linter.unusedSimpArgs false
set_option linter.unusedVariables false
namespace Go.Proofs.YtpdphobnchajbaaGreatDoor.Ev
open Go Go.RowKit
set_option maxRecDepth 100000
set_option maxHeartbeats 16000000
def aE5(v:A)(l:List Mg):Prop:=(l=[]∧v=.v (.slice none 0 0))∨v=.sl l.length (cells cM l)
theorem rI:∀ l:List Mg,fA (cells cM l)=cells cM l
 |[]=>rfl
 |x::l=>by
  simp only[cells,List.cons_append,List.nil_append,fA,nrm,rI l]
theorem mI:∀ l:List Mg,dE (cells cM l)=true
 |[]=>rfl
 |x::l=>by
  simp only[cells,List.cons_append,List.nil_append,dE,one,Bool.true_and,mI l]
theorem gN(z:List Value):∀ n,(gJ z n).length=n*z.length
 |0=>by simp[gJ]
 |n+1=>by
  simp only[gJ,List.length_append,List.length_map,gN z n,Nat.add_mul]
  omega
theorem wK{z:List Value}(h:dE (z.map .v)=true):∀ n,dE (gJ z n)=true
 |0=>rfl
 |n+1=>by
  unfold gJ
  exact fC _ _ h (wK h n)
theorem tR(n:Nat):dE (gJ [.int .u8 0,.int .u8 0,.int .u8 0,.int .u8 0,.int .u8 0,.int .u8 0,.bool false,.int .u8 0,.int .u8 0,.int .u8 0,.int .u8 0] n)=true:=wK rfl n
theorem RA{va vb:A}{a b:List Mg}(ha:aE5 va a)(hb:aE5 vb b)(la:a.length≤1000)(lb:b.length≤1000):EvQ Cx 125 [va,vb] (.sl (a++b).length (cells cM (a++b))):=by
 refine aX aQN rfl (by simp[FZ]) ?_
 have hta:∀(c:List Mg) l,List.take (c.length*11) (cells cM c++l)=cells cM c:=fun c l=>List.take_left' (cY c)
 have hap:∀ c d:List Mg,cells cM (c++d)=cells cM c++cells cM d:=dP cM
 have hz:(a=[]∧b=[])∨¬ (a.length+b.length=0):=by
  cases a<;>cases b<;>simp
 rcases hz with⟨rfl,rfl⟩|hz
 ·rcases ha with⟨-,rfl⟩|rfl<;>rcases hb with⟨-,rfl⟩|rfl
  all_goals
   simp(disch:=omega)only[go_sem,simprocAttr,aK AV AI,Nat.mul_one,maxLen,cells]
   rw[aA]
   simp(disch:=omega)only[go_sem,simprocAttr,Int.zero_add,Nat.mul_one]
   rw[aA]
   simp(disch:=omega)only[go_sem,simprocAttr,Int.zero_add,Nat.mul_one]
   rw[aA]
   simp(disch:=omega)only[go_sem,simprocAttr,aK vO vK,Int.sub_zero]
   rw[aA]
   simp(disch:=omega)only[go_sem,simprocAttr,Int.zero_add,Nat.mul_one]
   rw[aA]
   simp(disch:=omega)only[go_sem,simprocAttr,Nat.mul_one]
   rw[aA]
   simp(disch:=omega)only[go_sem,simprocAttr]
 ·rcases ha with⟨rfl,rfl⟩|rfl
  ·rcases hb with⟨rfl,rfl⟩|rfl
   ·simp at hz
   ·simp only[List.length_nil,Nat.zero_add]at hz
    simp(disch:=omega)only[go_sem,simprocAttr,aK AV AI,Nat.mul_one,maxLen]
    rw[aA]
    simp(disch:=omega)only[go_sem,simprocAttr,Int.zero_add,Nat.mul_one]
    rw[aA]
    simp(disch:=omega)only[go_sem,simprocAttr,Int.zero_add,Nat.mul_one]
    rw[aA]
    simp(disch:=omega)only[go_sem,simprocAttr,aK vO vK,gN,tR,Int.sub_zero,maxLen]
    rw[aA]
    simp(disch:=omega)only[go_sem,simprocAttr,gN,Int.zero_add,Nat.mul_one,maxLen]
    rw[aA]
    simp(disch:=omega)only[go_sem,simprocAttr,cY,mI,Nat.mul_one,maxLen]
    rw[aA]
    simp(disch:=omega)only[go_sem,simprocAttr,cY,dG,jI,rI]
  ·rcases hb with⟨rfl,rfl⟩|rfl
   ·simp only[List.length_nil,Nat.add_zero]at hz
    simp(disch:=omega)only[go_sem,simprocAttr,aK AV AI,Nat.mul_one,maxLen]
    rw[aA]
    simp(disch:=omega)only[go_sem,simprocAttr,Int.zero_add,Nat.mul_one]
    rw[aA]
    simp(disch:=omega)only[go_sem,simprocAttr,Nat.mul_one]
    rw[aA]
    simp(disch:=omega)only[go_sem,simprocAttr,aK vO vK,gN,tR,Int.sub_zero,maxLen]
    rw[aA]
    simp(disch:=omega)only[go_sem,simprocAttr,cY,mI,gN,Int.zero_add,Nat.mul_one,maxLen]
    rw[aA]
    simp(disch:=omega)only[go_sem,simprocAttr,cY,dG,Nat.mul_one,maxLen]
    rw[aA]
    simp(disch:=omega)only[go_sem,simprocAttr,cY,dG,jI,rI]
   ·simp(disch:=omega)only[go_sem,simprocAttr,aK AV AI,Nat.mul_one,maxLen]
    rw[aA]
    simp(disch:=omega)only[go_sem,simprocAttr,Int.zero_add,Nat.mul_one]
    rw[aA]
    simp(disch:=omega)only[go_sem,simprocAttr,Nat.mul_one]
    rw[aA]
    simp(disch:=omega)only[go_sem,simprocAttr,aK vO vK,gN,tR,Int.sub_zero,maxLen]
    rw[aA]
    simp(disch:=omega)only[go_sem,simprocAttr,cY,mI,gN,Int.zero_add,Nat.mul_one,maxLen]
    rw[aA]
    simp(disch:=omega)only[go_sem,simprocAttr,cY,dG,mI,Nat.mul_one,maxLen]
    rw[aA]
    have htab:=dG (a++b)
    rw[List.length_append]at htab
    simp(disch:=omega)only[go_sem,simprocAttr,cY,← hap,htab,jI,rI]
theorem aMS(a b:List Mg)(m:Mg)(la:a.length≤1000)(lb:b.length≤1000):EvQ Cx 118 [.sl (a++m::b).length (cells cM (a++m::b)),I64 a.length] (.tup [.sl (a++b).length (cells cM (a++b)),eM m,I64 0]):=by
 refine aX aPl rfl (by simp[GG]) ?_
 have hta:∀(c:List Mg) l,List.take (c.length*11) (cells cM c++l)=cells cM c:=fun c l=>List.take_left' (cY c)
 have hap:∀ c d:List Mg,cells cM (c++d)=cells cM c++cells cM d:=dP cM
 have hll:(a++m::b).length=a.length+b.length+1:=by rw[List.length_append,List.length_cons];omega
 have e0:=dP cM a (m::b)
 have e1:((a.length:Int)+1).toNat=a.length+1:=by omega
 have hr:List.drop (a.length*11) (cells cM (a++m::b))=cM m++cells cM b:=by rw[e0,List.drop_left' (cY a)];rfl
 have t1:List.take (a.length*11) (cells cM (a++m::b))=cells cM a:=by rw[e0,List.take_left' (cY a)]
 have d1:List.drop ((a.length+1)*11) (cells cM (a++m::b))=cells cM b:=by
  rw[show(a.length+1)*11=a.length*11+11 by omega,← List.drop_drop,hr]
  rfl
 have s1:a.length+b.length+1-(a.length+1)=b.length:=by omega
 have hlen:(cells cM (a++m::b)).length=(a.length+b.length+1)*11:=by rw[cY,hll]
 rw[hll]
 generalize cells cM (a++m::b)=CC at *
 have hz:(a=[]∧b=[])∨¬ (a.length+b.length=0):=by
  cases a<;>cases b<;>simp
 have htab:=dG (a++b)
 rw[List.length_append]at htab
 simp(disch:=omega)only[go_sem,simprocAttr,aK AV AI,cY,dG,Nat.mul_one,maxLen,hr,hlen,e1,t1,d1,s1]
 rcases hz with⟨rfl,rfl⟩|hz
 ·simp(disch:=omega)only[go_sem,simprocAttr,Int.zero_add,cells]
  rw[aA]
  simp(disch:=omega)only[go_sem,simprocAttr,Int.zero_add,Nat.mul_one]
  rw[aA]
  simp(disch:=omega)only[go_sem,simprocAttr,Int.zero_add,Nat.mul_one]
  rw[aA]
  simp(disch:=omega)only[go_sem,simprocAttr,aK vO vK,Int.sub_zero]
  rw[aA]
  simp(disch:=omega)only[go_sem,simprocAttr,Int.zero_add,Nat.mul_one]
  rw[aA]
  simp(disch:=omega)only[go_sem,simprocAttr,Nat.mul_one]
  rw[aA]
  simp(disch:=omega)only[go_sem,simprocAttr]
 ·rw[aA]
  simp(disch:=omega)only[go_sem,simprocAttr,Int.zero_add,Nat.mul_one]
  rw[aA]
  simp(disch:=omega)only[go_sem,simprocAttr,Nat.mul_one]
  rw[aA]
  simp(disch:=omega)only[go_sem,simprocAttr,aK vO vK,gN,tR,Int.sub_zero,maxLen]
  rw[aA]
  simp(disch:=omega)only[go_sem,simprocAttr,cY,mI,gN,Int.zero_add,Nat.mul_one,maxLen]
  rw[aA]
  simp(disch:=omega)only[go_sem,simprocAttr,cY,dG,mI,Nat.mul_one,maxLen]
  rw[aA]
  simp(disch:=omega)only[go_sem,simprocAttr,cY,← hap,htab,jI,rI]
end Go.Proofs.YtpdphobnchajbaaGreatDoor.Ev
