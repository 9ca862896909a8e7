/- Lexing: a token's fault. -/
import Derived.Test.YtpdphobnchajbaaGreatDoorP15
import Derived.Test.YtpdphobnchajbaaGreatDoorP06
set_option linter.unusedSimpArgs false
set_option linter.unusedVariables false
namespace Go.Proofs.YtpdphobnchajbaaGreatDoor.Ev
open Go Go.RowKit
set_option maxRecDepth 100000
theorem jx0(b:UInt8)(l:List UInt8):(⟨⟨b::l⟩⟩:ByteArray)[0]?=some b:=rfl
theorem jx1(a b:UInt8)(l:List UInt8):(⟨⟨a::b::l⟩⟩:ByteArray)[1]?=some b:=rfl
theorem jx2(a b c:UInt8)(l:List UInt8):(⟨⟨a::b::c::l⟩⟩:ByteArray)[2]?=some c:=rfl
theorem wrap_u8q(n:Int):IntKind.u8.wrap n=n % 256:=by
 simp[IntKind.wrap,IntKind.bits,IntKind.signed]
theorem c_rng(b:UInt8):0≤(b.toNat:Int)∧(b.toNat:Int)<256:=by
 have:=b.toNat_lt
 omega
noncomputable def digOk(n:Nat):Bool:=if clsK n=4 then Nat.ble 48 n&&Nat.ble n 57 else true
theorem dig_all:(List.range 256).all digOk=true:=by kernel_rfl
theorem cls4{b:UInt8}(h:clsB b=4):48≤(b.toNat:Int)∧(b.toNat:Int)≤57:=by
 have hm:=List.all_eq_true.1 dig_all b.toNat (List.mem_range.2 b.toNat_lt)
 unfold digOk at hm
 rw[if_pos (show clsK b.toNat=4 from h),Bool.and_eq_true]at hm
 have h1:=Nat.le_of_ble_eq_true hm.1
 have h2:=Nat.le_of_ble_eq_true hm.2
 omega
theorem num_ex(w:ByteArray)(hs:w.size≤16384):∃(v:Int) (o:Bool),EvQ Cx 343 [Sv w] (.tup [I8 v,Bo o]):=by
 have ex:∃ r0,RunK Cx [.code m343] ⟨argE 0 [Sv w],[]⟩ (FinQ Cx.T .shut fn343.res r0)∧∃(v:Int) (o:Bool),r0=.tup [I8 v,Bo o]:=by
  obtain⟨⟨l⟩⟩:=w
  match l with
  |[] =>
   simp(disch:=omega)only[go_sem,simprocAttr]
   exact⟨_,rfl,_,_,rfl⟩
  |[a] =>
   have qa:=clsB_ev a
   have ha:=c_rng a
   by_cases z0:(a.toNat:Int)=48
   all_goals
    by_cases ha4:clsB a=4
    ·have ra:=cls4 ha4
     rw[ha4]at qa
     simp(disch:=omega)only[go_sem,simprocAttr,jx0]
     iterate 2 (simp only[runK_loop];simp(disch:=omega)only[go_sem,simprocAttr,jx0,wrap_u8q,passK_shut CxP250,QK.use qa])
     exact⟨_,rfl,_,_,rfl⟩
    ·generalize clsB a=na at *
     simp(disch:=omega)only[go_sem,simprocAttr,jx0]
     iterate 1 (simp only[runK_loop];simp(disch:=omega)only[go_sem,simprocAttr,jx0,passK_shut CxP250,QK.use qa])
     exact⟨_,rfl,_,_,rfl⟩
  |[a,b] =>
   have qa:=clsB_ev a
   have ha:=c_rng a
   have qb:=clsB_ev b
   have hb:=c_rng b
   by_cases z0:(a.toNat:Int)=48
   ·simp(disch:=omega)only[go_sem,simprocAttr,jx0]
    exact⟨_,rfl,_,_,rfl⟩
   by_cases ha4:clsB a=4
   ·have ra:=cls4 ha4
    rw[ha4]at qa
    by_cases hb4:clsB b=4
    ·have rb:=cls4 hb4
     rw[hb4]at qb
     simp(disch:=omega)only[go_sem,simprocAttr,jx0]
     iterate 3 (simp only[runK_loop];simp(disch:=omega)only[go_sem,simprocAttr,jx0,jx1,wrap_u8q,passK_shut CxP250,QK.use qa,QK.use qb])
     exact⟨_,rfl,_,_,rfl⟩
    ·generalize clsB b=nb at *
     simp(disch:=omega)only[go_sem,simprocAttr,jx0]
     iterate 2 (simp only[runK_loop];simp(disch:=omega)only[go_sem,simprocAttr,jx0,jx1,wrap_u8q,passK_shut CxP250,QK.use qa,QK.use qb])
     exact⟨_,rfl,_,_,rfl⟩
   ·generalize clsB a=na at *
    simp(disch:=omega)only[go_sem,simprocAttr,jx0]
    iterate 1 (simp only[runK_loop];simp(disch:=omega)only[go_sem,simprocAttr,jx0,passK_shut CxP250,QK.use qa])
    exact⟨_,rfl,_,_,rfl⟩
  |[a,b,c] =>
   have qa:=clsB_ev a
   have ha:=c_rng a
   have qb:=clsB_ev b
   have hb:=c_rng b
   have qc:=clsB_ev c
   have hc:=c_rng c
   by_cases z0:(a.toNat:Int)=48
   ·simp(disch:=omega)only[go_sem,simprocAttr,jx0]
    exact⟨_,rfl,_,_,rfl⟩
   by_cases ha4:clsB a=4
   ·have ra:=cls4 ha4
    rw[ha4]at qa
    by_cases hb4:clsB b=4
    ·have rb:=cls4 hb4
     rw[hb4]at qb
     by_cases hc4:clsB c=4
     ·have rc:=cls4 hc4
      rw[hc4]at qc
      simp(disch:=omega)only[go_sem,simprocAttr,jx0]
      by_cases hv:100*((a.toNat:Int)-48)+10*((b.toNat:Int)-48)+((c.toNat:Int)-48)≤255
      ·iterate 4 (simp only[runK_loop];simp(disch:=omega)only[go_sem,simprocAttr,jx0,jx1,jx2,wrap_u8q,passK_shut CxP250,QK.use qa,QK.use qb,QK.use qc])
       exact⟨_,rfl,_,_,rfl⟩
      ·iterate 4 (simp only[runK_loop];simp(disch:=omega)only[go_sem,simprocAttr,jx0,jx1,jx2,wrap_u8q,passK_shut CxP250,QK.use qa,QK.use qb,QK.use qc])
       exact⟨_,rfl,_,_,rfl⟩
     ·generalize clsB c=nc at *
      simp(disch:=omega)only[go_sem,simprocAttr,jx0]
      iterate 3 (simp only[runK_loop];simp(disch:=omega)only[go_sem,simprocAttr,jx0,jx1,jx2,wrap_u8q,passK_shut CxP250,QK.use qa,QK.use qb,QK.use qc])
      exact⟨_,rfl,_,_,rfl⟩
    ·generalize clsB b=nb at *
     simp(disch:=omega)only[go_sem,simprocAttr,jx0]
     iterate 2 (simp only[runK_loop];simp(disch:=omega)only[go_sem,simprocAttr,jx0,jx1,wrap_u8q,passK_shut CxP250,QK.use qa,QK.use qb])
     exact⟨_,rfl,_,_,rfl⟩
   ·generalize clsB a=na at *
    simp(disch:=omega)only[go_sem,simprocAttr,jx0]
    iterate 1 (simp only[runK_loop];simp(disch:=omega)only[go_sem,simprocAttr,jx0,passK_shut CxP250,QK.use qa])
    exact⟨_,rfl,_,_,rfl⟩
  |a::b::c::d::l =>
   have hl:(0:Int)≤l.length:=by omega
   simp(disch:=omega)only[go_sem,simprocAttr]
   exact⟨_,rfl,_,_,rfl⟩
 obtain⟨r0,h1,v,o,rfl⟩:=ex
 exact⟨v,o,evQ_of CxB343 rfl (by simp[fn343]) h1⟩
theorem fault_ex(k:Int)(t:ByteArray)(p:Int)(hs:t.size≤16384)(hk:k=1∨k=2∨k=3∨k=4)(h0:k=3→0<t.size):∃ e:Int,EvQ Cx 310 [.agg [I8 k,Sv t,I64 p]] (I64 e):=by
 have ex:∃ r0,RunK Cx [.code m310] ⟨argE 0 [.agg [I8 k,Sv t,I64 p]],[]⟩ (FinQ Cx.T .shut fn310.res r0)∧∃ e:Int,r0=I64 e:=by
  rcases hk with rfl|rfl|rfl|rfl
  ·by_cases h:t.size≤16
   ·simp(disch:=omega)only[go_sem,simprocAttr]
    exact⟨_,rfl,_,rfl⟩
   ·simp(disch:=omega)only[go_sem,simprocAttr]
    exact⟨_,rfl,_,rfl⟩
  ·obtain⟨v,o,hn⟩:=num_ex t hs
   cases o
   all_goals
    simp(disch:=omega)only[go_sem,simprocAttr,passK_shut CxP343,QK.use hn]
    exact⟨_,rfl,_,rfl⟩
  ·obtain⟨⟨l⟩⟩:=t
   cases l with
   |nil=>exact absurd (h0 rfl) (by decide)
   |cons c l =>
    have hc:=clsB_ev c
    generalize clsB c=n at hc
    by_cases hn:n=6
    all_goals
     simp(disch:=omega)only[go_sem,simprocAttr,jx0,passK_shut CxP250,QK.use hc]
     exact⟨_,rfl,_,rfl⟩
  ·simp(disch:=omega)only[go_sem,simprocAttr]
   exact⟨_,rfl,_,rfl⟩
 obtain⟨r0,h1,e,rfl⟩:=ex
 exact⟨e,evQ_of CxB310 rfl (by simp[fn310]) h1⟩
def Grew(H H':Heap)(b:Nat):Prop:=H.length≤H'.length∧∀ i,i<H.length→i≠b→H'[i]?=H[i]?
theorem blankN_le:∀ l,blankN l≤l.length
 |[]=>Nat.le_refl _
 |c::l=>by
  have:=blankN_le l
  rw[blankN]
  split<;>simp<;>omega
theorem lineN_le:∀ l,lineN l≤l.length
 |[]=>Nat.le_refl _
 |c::l=>by
  have:=lineN_le l
  rw[lineN]
  split<;>simp<;>omega
theorem passN_le(l:List UInt8):passN l≤l.length:=by
 have h1:=blankN_le l
 have h2:hashN (l.drop (blankN l))≤(l.drop (blankN l)).length:=by
  generalize l.drop (blankN l)=m
  cases m with
  |nil=>exact Nat.le_refl _
  |cons c m =>
   rw[hashN]
   split
   ·exact lineN_le _
   ·exact Nat.zero_le _
 rw[List.length_drop]at h2
 unfold passN
 omega
end Go.Proofs.YtpdphobnchajbaaGreatDoor.Ev
