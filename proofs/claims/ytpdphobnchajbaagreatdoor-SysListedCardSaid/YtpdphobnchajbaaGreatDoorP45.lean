/- net: messages are sent, taken. -/
import Derived.Test.YtpdphobnchajbaaGreatDoorP37
import Derived.Test.YtpdphobnchajbaaGreatDoorP36
set_option linter.unusedSimpArgs false
set_option linter.unusedVariables false
namespace Go.Proofs.YtpdphobnchajbaaGreatDoor.Ev
open Go Go.RowKit
set_option maxRecDepth 100000
set_option maxHeartbeats 16000000
def valM(v:A)(l:List Mg):Prop:=(l=[]∧v=.v (.slice none 0 0))∨v=.sl l.length (cells cM l)
theorem cM_nrm:∀ l:List Mg,nrmL (cells cM l)=cells cM l
 |[]=>rfl
 |x::l=>by
  simp only[cells,List.cons_append,List.nil_append,nrmL,nrm,cM_nrm l]
theorem cM_ones:∀ l:List Mg,ones (cells cM l)=true
 |[]=>rfl
 |x::l=>by
  simp only[cells,List.cons_append,List.nil_append,ones,one,Bool.true_and,cM_ones l]
theorem zerosM_len(z:List Value):∀ n,(zeros z n).length=n*z.length
 |0=>by simp[zeros]
 |n+1=>by
  simp only[zeros,List.length_append,List.length_map,zerosM_len z n,Nat.add_mul]
  omega
theorem zerosM_ones{z:List Value}(h:ones (z.map .v)=true):∀ n,ones (zeros z n)=true
 |0=>rfl
 |n+1=>by
  unfold zeros
  exact ones_app _ _ h (zerosM_ones h n)
theorem zMg_ones(n:Nat):ones (zeros [.int .u8 0,.int .u8 0,.int .u8 0,.int .u8 0,.int .u8 0,.int .u8 0,.bool false,.int .u8 0,.int .u8 0,.int .u8 0,.int .u8 0] n)=true:=zerosM_ones rfl n
theorem send_ev{va vb:A}{a b:List Mg}(ha:valM va a)(hb:valM vb b)(la:a.length≤1000)(lb:b.length≤1000):EvQ Cx 125 [va,vb] (.sl (a++b).length (cells cM (a++b))):=by
 refine evQ_of CxB125 rfl (by simp[fn125]) ?_
 have hta:∀(c:List Mg) l,List.take (c.length*11) (cells cM c++l)=cells cM c:=fun c l=>List.take_left' (cM_len c)
 have hap:∀ c d:List Mg,cells cM (c++d)=cells cM c++cells cM d:=cells_app cM
 have hz:(a=[]∧b=[])∨¬ (a.length+b.length=0):=by
  cases a<;>cases b<;>simp
 rcases hz with⟨rfl,rfl⟩|hz
 ·rcases ha with⟨-,rfl⟩|rfl<;>rcases hb with⟨-,rfl⟩|rfl
  all_goals
   simp(disch:=omega)only[go_sem,simprocAttr,passK_in CxB189 CxP189,Nat.mul_one,maxLen,cells]
   rw[runK_loop]
   simp(disch:=omega)only[go_sem,simprocAttr,Int.zero_add,Nat.mul_one]
   rw[runK_loop]
   simp(disch:=omega)only[go_sem,simprocAttr,Int.zero_add,Nat.mul_one]
   rw[runK_loop]
   simp(disch:=omega)only[go_sem,simprocAttr,passK_in CxB230 CxP230,Int.sub_zero]
   rw[runK_loop]
   simp(disch:=omega)only[go_sem,simprocAttr,Int.zero_add,Nat.mul_one]
   rw[runK_loop]
   simp(disch:=omega)only[go_sem,simprocAttr,Nat.mul_one]
   rw[runK_loop]
   simp(disch:=omega)only[go_sem,simprocAttr]
 ·rcases ha with⟨rfl,rfl⟩|rfl
  ·rcases hb with⟨rfl,rfl⟩|rfl
   ·simp at hz
   ·simp only[List.length_nil,Nat.zero_add]at hz
    simp(disch:=omega)only[go_sem,simprocAttr,passK_in CxB189 CxP189,Nat.mul_one,maxLen]
    rw[runK_loop]
    simp(disch:=omega)only[go_sem,simprocAttr,Int.zero_add,Nat.mul_one]
    rw[runK_loop]
    simp(disch:=omega)only[go_sem,simprocAttr,Int.zero_add,Nat.mul_one]
    rw[runK_loop]
    simp(disch:=omega)only[go_sem,simprocAttr,passK_in CxB230 CxP230,zerosM_len,zMg_ones,Int.sub_zero,maxLen]
    rw[runK_loop]
    simp(disch:=omega)only[go_sem,simprocAttr,zerosM_len,Int.zero_add,Nat.mul_one,maxLen]
    rw[runK_loop]
    simp(disch:=omega)only[go_sem,simprocAttr,cM_len,cM_ones,Nat.mul_one,maxLen]
    rw[runK_loop]
    simp(disch:=omega)only[go_sem,simprocAttr,cM_len,cM_take,cM_fz,cM_nrm]
  ·rcases hb with⟨rfl,rfl⟩|rfl
   ·simp only[List.length_nil,Nat.add_zero]at hz
    simp(disch:=omega)only[go_sem,simprocAttr,passK_in CxB189 CxP189,Nat.mul_one,maxLen]
    rw[runK_loop]
    simp(disch:=omega)only[go_sem,simprocAttr,Int.zero_add,Nat.mul_one]
    rw[runK_loop]
    simp(disch:=omega)only[go_sem,simprocAttr,Nat.mul_one]
    rw[runK_loop]
    simp(disch:=omega)only[go_sem,simprocAttr,passK_in CxB230 CxP230,zerosM_len,zMg_ones,Int.sub_zero,maxLen]
    rw[runK_loop]
    simp(disch:=omega)only[go_sem,simprocAttr,cM_len,cM_ones,zerosM_len,Int.zero_add,Nat.mul_one,maxLen]
    rw[runK_loop]
    simp(disch:=omega)only[go_sem,simprocAttr,cM_len,cM_take,Nat.mul_one,maxLen]
    rw[runK_loop]
    simp(disch:=omega)only[go_sem,simprocAttr,cM_len,cM_take,cM_fz,cM_nrm]
   ·simp(disch:=omega)only[go_sem,simprocAttr,passK_in CxB189 CxP189,Nat.mul_one,maxLen]
    rw[runK_loop]
    simp(disch:=omega)only[go_sem,simprocAttr,Int.zero_add,Nat.mul_one]
    rw[runK_loop]
    simp(disch:=omega)only[go_sem,simprocAttr,Nat.mul_one]
    rw[runK_loop]
    simp(disch:=omega)only[go_sem,simprocAttr,passK_in CxB230 CxP230,zerosM_len,zMg_ones,Int.sub_zero,maxLen]
    rw[runK_loop]
    simp(disch:=omega)only[go_sem,simprocAttr,cM_len,cM_ones,zerosM_len,Int.zero_add,Nat.mul_one,maxLen]
    rw[runK_loop]
    simp(disch:=omega)only[go_sem,simprocAttr,cM_len,cM_take,cM_ones,Nat.mul_one,maxLen]
    rw[runK_loop]
    have htab:=cM_take (a++b)
    rw[List.length_append]at htab
    simp(disch:=omega)only[go_sem,simprocAttr,cM_len,← hap,htab,cM_fz,cM_nrm]
theorem take_ev(a b:List Mg)(m:Mg)(la:a.length≤1000)(lb:b.length≤1000):EvQ Cx 118 [.sl (a++m::b).length (cells cM (a++m::b)),I64 a.length] (.tup [.sl (a++b).length (cells cM (a++b)),eM m,I64 0]):=by
 refine evQ_of CxB118 rfl (by simp[fn118]) ?_
 have hta:∀(c:List Mg) l,List.take (c.length*11) (cells cM c++l)=cells cM c:=fun c l=>List.take_left' (cM_len c)
 have hap:∀ c d:List Mg,cells cM (c++d)=cells cM c++cells cM d:=cells_app cM
 have hll:(a++m::b).length=a.length+b.length+1:=by rw[List.length_append,List.length_cons];omega
 have e0:=cells_app cM a (m::b)
 have e1:((a.length:Int)+1).toNat=a.length+1:=by omega
 have hr:List.drop (a.length*11) (cells cM (a++m::b))=cM m++cells cM b:=by rw[e0,List.drop_left' (cM_len a)];rfl
 have t1:List.take (a.length*11) (cells cM (a++m::b))=cells cM a:=by rw[e0,List.take_left' (cM_len a)]
 have d1:List.drop ((a.length+1)*11) (cells cM (a++m::b))=cells cM b:=by
  rw[show(a.length+1)*11=a.length*11+11 by omega,← List.drop_drop,hr]
  rfl
 have s1:a.length+b.length+1-(a.length+1)=b.length:=by omega
 have hlen:(cells cM (a++m::b)).length=(a.length+b.length+1)*11:=by rw[cM_len,hll]
 rw[hll]
 generalize cells cM (a++m::b)=CC at *
 have hz:(a=[]∧b=[])∨¬ (a.length+b.length=0):=by
  cases a<;>cases b<;>simp
 have htab:=cM_take (a++b)
 rw[List.length_append]at htab
 simp(disch:=omega)only[go_sem,simprocAttr,passK_in CxB189 CxP189,cM_len,cM_take,Nat.mul_one,maxLen,hr,hlen,e1,t1,d1,s1]
 rcases hz with⟨rfl,rfl⟩|hz
 ·simp(disch:=omega)only[go_sem,simprocAttr,Int.zero_add,cells]
  rw[runK_loop]
  simp(disch:=omega)only[go_sem,simprocAttr,Int.zero_add,Nat.mul_one]
  rw[runK_loop]
  simp(disch:=omega)only[go_sem,simprocAttr,Int.zero_add,Nat.mul_one]
  rw[runK_loop]
  simp(disch:=omega)only[go_sem,simprocAttr,passK_in CxB230 CxP230,Int.sub_zero]
  rw[runK_loop]
  simp(disch:=omega)only[go_sem,simprocAttr,Int.zero_add,Nat.mul_one]
  rw[runK_loop]
  simp(disch:=omega)only[go_sem,simprocAttr,Nat.mul_one]
  rw[runK_loop]
  simp(disch:=omega)only[go_sem,simprocAttr]
 ·rw[runK_loop]
  simp(disch:=omega)only[go_sem,simprocAttr,Int.zero_add,Nat.mul_one]
  rw[runK_loop]
  simp(disch:=omega)only[go_sem,simprocAttr,Nat.mul_one]
  rw[runK_loop]
  simp(disch:=omega)only[go_sem,simprocAttr,passK_in CxB230 CxP230,zerosM_len,zMg_ones,Int.sub_zero,maxLen]
  rw[runK_loop]
  simp(disch:=omega)only[go_sem,simprocAttr,cM_len,cM_ones,zerosM_len,Int.zero_add,Nat.mul_one,maxLen]
  rw[runK_loop]
  simp(disch:=omega)only[go_sem,simprocAttr,cM_len,cM_take,cM_ones,Nat.mul_one,maxLen]
  rw[runK_loop]
  simp(disch:=omega)only[go_sem,simprocAttr,cM_len,← hap,htab,cM_fz,cM_nrm]
end Go.Proofs.YtpdphobnchajbaaGreatDoor.Ev
