/- Lexing: a token's fault. -/
import Derived.Test.YtpdphobnchajbaaGreatDoorQ10
import Derived.Test.YtpdphobnchajbaaGreatDoorQ06
set_option linter.unusedSimpArgs false
set_option linter.unusedVariables false
namespace Go.Proofs.YtpdphobnchajbaaGreatDoor.Ev
open Go Go.RowKit
set_option maxRecDepth 100000
theorem jx0(b:UInt8)(l:List UInt8):(⟨⟨b::l⟩⟩:ByteArray)[0]?=some b:=rfl
theorem jx1(a b:UInt8)(l:List UInt8):(⟨⟨a::b::l⟩⟩:ByteArray)[1]?=some b:=rfl
theorem jx2(a b c:UInt8)(l:List UInt8):(⟨⟨a::b::c::l⟩⟩:ByteArray)[2]?=some c:=rfl
theorem mE(n:Int):IntKind.u8.wrap n=n % 256:=by
 simp[IntKind.wrap,IntKind.bits,IntKind.signed]
theorem zD(b:UInt8):0≤(b.toNat:Int)∧(b.toNat:Int)<256:=by
 have:=b.toNat_lt
 omega
noncomputable def aOL(n:Nat):Bool:=if aLE n=4 then Nat.ble 48 n&&Nat.ble n 57 else true
theorem aHA:(List.range 256).all aOL=true:=by kernel_rfl
theorem ZE{b:UInt8}(h:gC b=4):48≤(b.toNat:Int)∧(b.toNat:Int)≤57:=by
 have hm:=List.all_eq_true.1 aHA b.toNat (List.mem_range.2 b.toNat_lt)
 unfold aOL at hm
 rw[if_pos (show aLE b.toNat=4 from h),Bool.and_eq_true]at hm
 have h1:=Nat.le_of_ble_eq_true hm.1
 have h2:=Nat.le_of_ble_eq_true hm.2
 omega
theorem aSU(w:ByteArray)(hs:w.size≤16384):∃(v:Int) (o:Bool),EvQ Cx 343 [Sv w] (.tup [I8 v,Bo o]):=by
 have ex:∃ r0,bG Cx [.code aK6] ⟨iR 0 [Sv w],[]⟩ (rE Cx.T .shut BR.res r0)∧∃(v:Int) (o:Bool),r0=.tup [I8 v,Bo o]:=by
  obtain⟨⟨l⟩⟩:=w
  match l with
  |[] =>
   simp(disch:=omega)only[go_sem,simprocAttr]
   exact⟨_,rfl,_,_,rfl⟩
  |[a] =>
   have qa:=gL a
   have ha:=zD a
   by_cases z0:(a.toNat:Int)=48
   all_goals
    by_cases ha4:gC a=4
    ·have ra:=ZE ha4
     rw[ha4]at qa
     simp(disch:=omega)only[go_sem,simprocAttr,jx0]
     iterate 2 (simp only[aA];simp(disch:=omega)only[go_sem,simprocAttr,jx0,mE,aD fM,QK.use qa])
     exact⟨_,rfl,_,_,rfl⟩
    ·generalize gC a=na at *
     simp(disch:=omega)only[go_sem,simprocAttr,jx0]
     iterate 1 (simp only[aA];simp(disch:=omega)only[go_sem,simprocAttr,jx0,aD fM,QK.use qa])
     exact⟨_,rfl,_,_,rfl⟩
  |[a,b] =>
   have qa:=gL a
   have ha:=zD a
   have qb:=gL b
   have hb:=zD b
   by_cases z0:(a.toNat:Int)=48
   ·simp(disch:=omega)only[go_sem,simprocAttr,jx0]
    exact⟨_,rfl,_,_,rfl⟩
   by_cases ha4:gC a=4
   ·have ra:=ZE ha4
    rw[ha4]at qa
    by_cases hb4:gC b=4
    ·have rb:=ZE hb4
     rw[hb4]at qb
     simp(disch:=omega)only[go_sem,simprocAttr,jx0]
     iterate 3 (simp only[aA];simp(disch:=omega)only[go_sem,simprocAttr,jx0,jx1,mE,aD fM,QK.use qa,QK.use qb])
     exact⟨_,rfl,_,_,rfl⟩
    ·generalize gC b=nb at *
     simp(disch:=omega)only[go_sem,simprocAttr,jx0]
     iterate 2 (simp only[aA];simp(disch:=omega)only[go_sem,simprocAttr,jx0,jx1,mE,aD fM,QK.use qa,QK.use qb])
     exact⟨_,rfl,_,_,rfl⟩
   ·generalize gC a=na at *
    simp(disch:=omega)only[go_sem,simprocAttr,jx0]
    iterate 1 (simp only[aA];simp(disch:=omega)only[go_sem,simprocAttr,jx0,aD fM,QK.use qa])
    exact⟨_,rfl,_,_,rfl⟩
  |[a,b,c] =>
   have qa:=gL a
   have ha:=zD a
   have qb:=gL b
   have hb:=zD b
   have qc:=gL c
   have hc:=zD c
   by_cases z0:(a.toNat:Int)=48
   ·simp(disch:=omega)only[go_sem,simprocAttr,jx0]
    exact⟨_,rfl,_,_,rfl⟩
   by_cases ha4:gC a=4
   ·have ra:=ZE ha4
    rw[ha4]at qa
    by_cases hb4:gC b=4
    ·have rb:=ZE hb4
     rw[hb4]at qb
     by_cases hc4:gC c=4
     ·have rc:=ZE hc4
      rw[hc4]at qc
      simp(disch:=omega)only[go_sem,simprocAttr,jx0]
      by_cases hv:100*((a.toNat:Int)-48)+10*((b.toNat:Int)-48)+((c.toNat:Int)-48)≤255
      ·iterate 4 (simp only[aA];simp(disch:=omega)only[go_sem,simprocAttr,jx0,jx1,jx2,mE,aD fM,QK.use qa,QK.use qb,QK.use qc])
       exact⟨_,rfl,_,_,rfl⟩
      ·iterate 4 (simp only[aA];simp(disch:=omega)only[go_sem,simprocAttr,jx0,jx1,jx2,mE,aD fM,QK.use qa,QK.use qb,QK.use qc])
       exact⟨_,rfl,_,_,rfl⟩
     ·generalize gC c=nc at *
      simp(disch:=omega)only[go_sem,simprocAttr,jx0]
      iterate 3 (simp only[aA];simp(disch:=omega)only[go_sem,simprocAttr,jx0,jx1,jx2,mE,aD fM,QK.use qa,QK.use qb,QK.use qc])
      exact⟨_,rfl,_,_,rfl⟩
    ·generalize gC b=nb at *
     simp(disch:=omega)only[go_sem,simprocAttr,jx0]
     iterate 2 (simp only[aA];simp(disch:=omega)only[go_sem,simprocAttr,jx0,jx1,mE,aD fM,QK.use qa,QK.use qb])
     exact⟨_,rfl,_,_,rfl⟩
   ·generalize gC a=na at *
    simp(disch:=omega)only[go_sem,simprocAttr,jx0]
    iterate 1 (simp only[aA];simp(disch:=omega)only[go_sem,simprocAttr,jx0,aD fM,QK.use qa])
    exact⟨_,rfl,_,_,rfl⟩
  |a::b::c::d::l =>
   have hl:(0:Int)≤l.length:=by omega
   simp(disch:=omega)only[go_sem,simprocAttr]
   exact⟨_,rfl,_,_,rfl⟩
 obtain⟨r0,h1,v,o,rfl⟩:=ex
 exact⟨v,o,aX aR5 rfl (by simp[BR]) h1⟩
theorem aDt(k:Int)(t:ByteArray)(p:Int)(hs:t.size≤16384)(hk:k=1∨k=2∨k=3∨k=4)(h0:k=3→0<t.size):∃ e:Int,EvQ Cx 310 [.agg [I8 k,Sv t,I64 p]] (I64 e):=by
 have ex:∃ r0,bG Cx [.code a11] ⟨iR 0 [.agg [I8 k,Sv t,I64 p]],[]⟩ (rE Cx.T .shut BM.res r0)∧∃ e:Int,r0=I64 e:=by
  rcases hk with rfl|rfl|rfl|rfl
  ·by_cases h:t.size≤16
   ·simp(disch:=omega)only[go_sem,simprocAttr]
    exact⟨_,rfl,_,rfl⟩
   ·simp(disch:=omega)only[go_sem,simprocAttr]
    exact⟨_,rfl,_,rfl⟩
  ·obtain⟨v,o,hn⟩:=aSU t hs
   cases o
   all_goals
    simp(disch:=omega)only[go_sem,simprocAttr,aD aRu,QK.use hn]
    exact⟨_,rfl,_,rfl⟩
  ·obtain⟨⟨l⟩⟩:=t
   cases l with
   |nil=>exact absurd (h0 rfl) (by decide)
   |cons c l =>
    have hc:=gL c
    generalize gC c=n at hc
    by_cases hn:n=6
    all_goals
     simp(disch:=omega)only[go_sem,simprocAttr,jx0,aD fM,QK.use hc]
     exact⟨_,rfl,_,rfl⟩
  ·simp(disch:=omega)only[go_sem,simprocAttr]
   exact⟨_,rfl,_,rfl⟩
 obtain⟨r0,h1,e,rfl⟩:=ex
 exact⟨e,aX aWi rfl (by simp[BM]) h1⟩
def pY(H H':aG)(b:Nat):Prop:=H.length≤H'.length∧∀ i,i<H.length→i≠b→H'[i]?=H[i]?
theorem CL:∀ l,kT l≤l.length
 |[]=>Nat.le_refl _
 |c::l=>by
  have:=CL l
  rw[kT]
  split<;>simp<;>omega
theorem IU:∀ l,yO l≤l.length
 |[]=>Nat.le_refl _
 |c::l=>by
  have:=IU l
  rw[yO]
  split<;>simp<;>omega
theorem aDd(l:List UInt8):HY l≤l.length:=by
 have h1:=CL l
 have h2:wP (l.drop (kT l))≤(l.drop (kT l)).length:=by
  generalize l.drop (kT l)=m
  cases m with
  |nil=>exact Nat.le_refl _
  |cons c m =>
   rw[wP]
   split
   ·exact IU _
   ·exact Nat.zero_le _
 rw[List.length_drop]at h2
 unfold HY
 omega
end Go.Proofs.YtpdphobnchajbaaGreatDoor.Ev
