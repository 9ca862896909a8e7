/- cache: a transition. -/
import Derived.Test.YtpdphobnchajbaaGreatDoorQ33
set_option linter.unusedSimpArgs false
set_option linter.unusedVariables false
namespace Go.Proofs.YtpdphobnchajbaaGreatDoor.Ev
open Go Go.RowKit
set_option maxRecDepth 100000
set_option maxHeartbeats 16000000
theorem aIE:EvQ Cx 227 [] (.agg [.v (.func (.func 289) #[] #[]),.v (.func (.func 290) #[] #[]),.v (.func (.func 291) #[] #[]),.v (.func (.func 292) #[] #[]),.v (.func (.func 293) #[] #[]),.v (.func (.func 294) #[] #[]),.v (.func (.func 295) #[] #[]),.v (.func (.func 296) #[] #[]),.v (.func (.func 297) #[] #[]),.v (.func (.func 298) #[] #[])]):=bI 60 (by kernel_rfl)
abbrev AY:A:=.v (.slice none 0 0)
section
variable{c h o s y id ev:Int}{m:Mg}{dZ:Bool}{b:Nat}
structure tN(c h o s y id ev:Int)(m:Mg)(dZ:Bool)(b:Nat)(H0:aG)(L:Nat)(K:aG)(w:Cw)(vs vd:A):Prop where
 at_:CAt c h o s y id ev m dZ b K w vs vd
 ok:w.Ok
 sent:w.sent.length≤L
 done:w.done.length≤L
 kq:Kq H0 K b AY AY vs vd
theorem tN.same{H0 K:aG}{L:Nat}{w:Cw}{vs vd:A}(F:tN c h o s y id ev m dZ b H0 L K w vs vd){i:Nat}{X:Option Blk}(hi:H0[i]?=some X)(hb:i≠b):K[i]?=some X :=
 (F.kq.same i (List.getElem?_eq_some_iff.1 hi).1 hb (fun _ _ e=>by cases e) (fun _ _ e=>by cases e)).trans hi
theorem XF(hk:OkG c h o s y)(mo:m.Ok)(hid:0≤id∧id<256){H1:aG}{w:Cw}(a:CAt c h o s y id ev m dZ b H1 w AY AY)(k:w.Ok)(hs:w.sent.length≤1)(hd:w.done.length≤1){r4 r8 r9:Nat}{z:Ce}(hz9:H1[r9]?=some (some ⟨36,cE z,true⟩))(n9:r9≠b)(zo:z.Ok){KK:List It}{Q:Ex→Ev.St→Prop}
  (hE:∀(K:aG) (w':Cw) (vs vd:A),tN c h o s y id ev m dZ b H1 20 K w' vs vd→dN Cx (.out 0) KK ⟨[(38,Bo false),(1,.ptr b 0),(4,.ptr r4 0),(8,.ptr r8 0),(9,.ptr r9 0),(36,.agg [.v (.func (.func 289) #[] #[]),.v (.func (.func 290) #[] #[]),.v (.func (.func 291) #[] #[]),.v (.func (.func 292) #[] #[]),.v (.func (.func 293) #[] #[]),.v (.func (.func 294) #[] #[]),.v (.func (.func 295) #[] #[]),.v (.func (.func 296) #[] #[]),.v (.func (.func 297) #[] #[]),.v (.func (.func 298) #[] #[])]),(37,I64 10)],K⟩ Q) :
  bG Cx (.code (.loop iM)::KK) ⟨[(1,.ptr b 0),(4,.ptr r4 0),(8,.ptr r8 0),(9,.ptr r9 0),(36,.agg [.v (.func (.func 289) #[] #[]),.v (.func (.func 290) #[] #[]),.v (.func (.func 291) #[] #[]),.v (.func (.func 292) #[] #[]),.v (.func (.func 293) #[] #[]),.v (.func (.func 294) #[] #[]),.v (.func (.func 295) #[] #[]),.v (.func (.func 296) #[] #[]),.v (.func (.func 297) #[] #[]),.v (.func (.func 298) #[] #[])]),(37,I64 0)],H1⟩ Q:=by
 have za:=zo.acts
 have h10:∀(K:aG) (w':Cw) (vs vd:A),tN c h o s y id ev m dZ b H1 (1+10) K w' vs vd→bG Cx (.code (.loop iM)::KK) ⟨[(1,.ptr b 0),(4,.ptr r4 0),(8,.ptr r8 0),(9,.ptr r9 0),(36,.agg [.v (.func (.func 289) #[] #[]),.v (.func (.func 290) #[] #[]),.v (.func (.func 291) #[] #[]),.v (.func (.func 292) #[] #[]),.v (.func (.func 293) #[] #[]),.v (.func (.func 294) #[] #[]),.v (.func (.func 295) #[] #[]),.v (.func (.func 296) #[] #[]),.v (.func (.func 297) #[] #[]),.v (.func (.func 298) #[] #[])]),(37,I64 10)],K⟩ Q:=by
  intro K w' vs vd F
  rw[aA]
  simp(disch:=omega)only[go_sem,simprocAttr]
  exact hE _ _ _ _ ⟨F.at_,F.ok,Nat.le_trans F.sent (by decide),Nat.le_trans F.done (by decide),F.kq⟩
 have h9:∀(K:aG) (w':Cw) (vs vd:A),tN c h o s y id ev m dZ b H1 (1+9) K w' vs vd→bG Cx (.code (.loop iM)::KK) ⟨[(1,.ptr b 0),(4,.ptr r4 0),(8,.ptr r8 0),(9,.ptr r9 0),(36,.agg [.v (.func (.func 289) #[] #[]),.v (.func (.func 290) #[] #[]),.v (.func (.func 291) #[] #[]),.v (.func (.func 292) #[] #[]),.v (.func (.func 293) #[] #[]),.v (.func (.func 294) #[] #[]),.v (.func (.func 295) #[] #[]),.v (.func (.func 296) #[] #[]),.v (.func (.func 297) #[] #[]),.v (.func (.func 298) #[] #[])]),(37,I64 9)],K⟩ Q:=by
  intro K w' vs vd F
  have g9:=F.same hz9 n9
  rw[aA]
  simp(disch:=omega)only[go_sem,simprocAttr,g9]
  refine bD (fun _=>?_) (fun _=>?_)
  ·simp(disch:=omega)only[go_sem,simprocAttr]
   refine aM (bAE  _ _ _ _ F.at_ F.ok (Nat.le_trans F.sent (by decide)) (Nat.le_trans F.done (by decide))) ?_
   rintro y' K' ⟨rfl,w2,vs2,vd2,a2,k2,l2,e2,p2⟩
   simp(disch:=omega)only[go_sem,simprocAttr]
   rw[aB (l:=[1,4,8,9,36,37]) rfl]
   simp(disch:=omega)only[go_sem,simprocAttr]
   exact h10 _ _ _ _ ⟨a2,k2,Nat.le_trans l2 (Nat.add_le_add_right F.sent 1),Nat.le_trans e2 (Nat.add_le_add_right F.done 1),F.kq.trans p2⟩
  ·simp(disch:=omega)only[go_sem,simprocAttr]
   rw[aB (l:=[1,4,8,9,36,37]) rfl]
   simp(disch:=omega)only[go_sem,simprocAttr]
   exact h10 _ _ _ _ ⟨F.at_,F.ok,Nat.le_trans F.sent (by decide),Nat.le_trans F.done (by decide),F.kq⟩
 have h8:∀(K:aG) (w':Cw) (vs vd:A),tN c h o s y id ev m dZ b H1 (1+8) K w' vs vd→bG Cx (.code (.loop iM)::KK) ⟨[(1,.ptr b 0),(4,.ptr r4 0),(8,.ptr r8 0),(9,.ptr r9 0),(36,.agg [.v (.func (.func 289) #[] #[]),.v (.func (.func 290) #[] #[]),.v (.func (.func 291) #[] #[]),.v (.func (.func 292) #[] #[]),.v (.func (.func 293) #[] #[]),.v (.func (.func 294) #[] #[]),.v (.func (.func 295) #[] #[]),.v (.func (.func 296) #[] #[]),.v (.func (.func 297) #[] #[]),.v (.func (.func 298) #[] #[])]),(37,I64 8)],K⟩ Q:=by
  intro K w' vs vd F
  have g9:=F.same hz9 n9
  rw[aA]
  simp(disch:=omega)only[go_sem,simprocAttr,g9]
  refine bD (fun _=>?_) (fun _=>?_)
  ·simp(disch:=omega)only[go_sem,simprocAttr]
   refine aM (cDo hk hid _ _ _ _ F.at_ F.ok (Nat.le_trans F.sent (by decide)) (Nat.le_trans F.done (by decide))) ?_
   rintro y' K' ⟨rfl,w2,vs2,vd2,a2,k2,l2,e2,p2⟩
   simp(disch:=omega)only[go_sem,simprocAttr]
   rw[aB (l:=[1,4,8,9,36,37]) rfl]
   simp(disch:=omega)only[go_sem,simprocAttr]
   exact h9 _ _ _ _ ⟨a2,k2,Nat.le_trans l2 (Nat.add_le_add_right F.sent 1),Nat.le_trans e2 (Nat.add_le_add_right F.done 1),F.kq.trans p2⟩
  ·simp(disch:=omega)only[go_sem,simprocAttr]
   rw[aB (l:=[1,4,8,9,36,37]) rfl]
   simp(disch:=omega)only[go_sem,simprocAttr]
   exact h9 _ _ _ _ ⟨F.at_,F.ok,Nat.le_trans F.sent (by decide),Nat.le_trans F.done (by decide),F.kq⟩
 have h7:∀(K:aG) (w':Cw) (vs vd:A),tN c h o s y id ev m dZ b H1 (1+7) K w' vs vd→bG Cx (.code (.loop iM)::KK) ⟨[(1,.ptr b 0),(4,.ptr r4 0),(8,.ptr r8 0),(9,.ptr r9 0),(36,.agg [.v (.func (.func 289) #[] #[]),.v (.func (.func 290) #[] #[]),.v (.func (.func 291) #[] #[]),.v (.func (.func 292) #[] #[]),.v (.func (.func 293) #[] #[]),.v (.func (.func 294) #[] #[]),.v (.func (.func 295) #[] #[]),.v (.func (.func 296) #[] #[]),.v (.func (.func 297) #[] #[]),.v (.func (.func 298) #[] #[])]),(37,I64 7)],K⟩ Q:=by
  intro K w' vs vd F
  have g9:=F.same hz9 n9
  rw[aA]
  simp(disch:=omega)only[go_sem,simprocAttr,g9]
  refine bD (fun _=>?_) (fun _=>?_)
  ·simp(disch:=omega)only[go_sem,simprocAttr]
   refine aM (bDp hk mo hid _ _ _ _ F.at_ F.ok (Nat.le_trans F.sent (by decide)) (Nat.le_trans F.done (by decide))) ?_
   rintro y' K' ⟨rfl,w2,vs2,vd2,a2,k2,l2,e2,p2⟩
   simp(disch:=omega)only[go_sem,simprocAttr]
   rw[aB (l:=[1,4,8,9,36,37]) rfl]
   simp(disch:=omega)only[go_sem,simprocAttr]
   exact h8 _ _ _ _ ⟨a2,k2,Nat.le_trans l2 (Nat.add_le_add_right F.sent 1),Nat.le_trans e2 (Nat.add_le_add_right F.done 1),F.kq.trans p2⟩
  ·simp(disch:=omega)only[go_sem,simprocAttr]
   rw[aB (l:=[1,4,8,9,36,37]) rfl]
   simp(disch:=omega)only[go_sem,simprocAttr]
   exact h8 _ _ _ _ ⟨F.at_,F.ok,Nat.le_trans F.sent (by decide),Nat.le_trans F.done (by decide),F.kq⟩
 have h6:∀(K:aG) (w':Cw) (vs vd:A),tN c h o s y id ev m dZ b H1 (1+6) K w' vs vd→bG Cx (.code (.loop iM)::KK) ⟨[(1,.ptr b 0),(4,.ptr r4 0),(8,.ptr r8 0),(9,.ptr r9 0),(36,.agg [.v (.func (.func 289) #[] #[]),.v (.func (.func 290) #[] #[]),.v (.func (.func 291) #[] #[]),.v (.func (.func 292) #[] #[]),.v (.func (.func 293) #[] #[]),.v (.func (.func 294) #[] #[]),.v (.func (.func 295) #[] #[]),.v (.func (.func 296) #[] #[]),.v (.func (.func 297) #[] #[]),.v (.func (.func 298) #[] #[])]),(37,I64 6)],K⟩ Q:=by
  intro K w' vs vd F
  have g9:=F.same hz9 n9
  rw[aA]
  simp(disch:=omega)only[go_sem,simprocAttr,g9]
  refine bD (fun _=>?_) (fun _=>?_)
  ·simp(disch:=omega)only[go_sem,simprocAttr]
   refine aM (bDm hk mo hid _ _ _ _ F.at_ F.ok (Nat.le_trans F.sent (by decide)) (Nat.le_trans F.done (by decide))) ?_
   rintro y' K' ⟨rfl,w2,vs2,vd2,a2,k2,l2,e2,p2⟩
   simp(disch:=omega)only[go_sem,simprocAttr]
   rw[aB (l:=[1,4,8,9,36,37]) rfl]
   simp(disch:=omega)only[go_sem,simprocAttr]
   exact h7 _ _ _ _ ⟨a2,k2,Nat.le_trans l2 (Nat.add_le_add_right F.sent 1),Nat.le_trans e2 (Nat.add_le_add_right F.done 1),F.kq.trans p2⟩
  ·simp(disch:=omega)only[go_sem,simprocAttr]
   rw[aB (l:=[1,4,8,9,36,37]) rfl]
   simp(disch:=omega)only[go_sem,simprocAttr]
   exact h7 _ _ _ _ ⟨F.at_,F.ok,Nat.le_trans F.sent (by decide),Nat.le_trans F.done (by decide),F.kq⟩
 have h5:∀(K:aG) (w':Cw) (vs vd:A),tN c h o s y id ev m dZ b H1 (1+5) K w' vs vd→bG Cx (.code (.loop iM)::KK) ⟨[(1,.ptr b 0),(4,.ptr r4 0),(8,.ptr r8 0),(9,.ptr r9 0),(36,.agg [.v (.func (.func 289) #[] #[]),.v (.func (.func 290) #[] #[]),.v (.func (.func 291) #[] #[]),.v (.func (.func 292) #[] #[]),.v (.func (.func 293) #[] #[]),.v (.func (.func 294) #[] #[]),.v (.func (.func 295) #[] #[]),.v (.func (.func 296) #[] #[]),.v (.func (.func 297) #[] #[]),.v (.func (.func 298) #[] #[])]),(37,I64 5)],K⟩ Q:=by
  intro K w' vs vd F
  have g9:=F.same hz9 n9
  rw[aA]
  simp(disch:=omega)only[go_sem,simprocAttr,g9]
  refine bD (fun _=>?_) (fun _=>?_)
  ·simp(disch:=omega)only[go_sem,simprocAttr]
   refine aM (aGI hk mo hid _ _ _ _ F.at_ F.ok (Nat.le_trans F.sent (by decide)) (Nat.le_trans F.done (by decide))) ?_
   rintro y' K' ⟨rfl,w2,vs2,vd2,a2,k2,l2,e2,p2⟩
   simp(disch:=omega)only[go_sem,simprocAttr]
   rw[aB (l:=[1,4,8,9,36,37]) rfl]
   simp(disch:=omega)only[go_sem,simprocAttr]
   exact h6 _ _ _ _ ⟨a2,k2,Nat.le_trans l2 (Nat.add_le_add_right F.sent 1),Nat.le_trans e2 (Nat.add_le_add_right F.done 1),F.kq.trans p2⟩
  ·simp(disch:=omega)only[go_sem,simprocAttr]
   rw[aB (l:=[1,4,8,9,36,37]) rfl]
   simp(disch:=omega)only[go_sem,simprocAttr]
   exact h6 _ _ _ _ ⟨F.at_,F.ok,Nat.le_trans F.sent (by decide),Nat.le_trans F.done (by decide),F.kq⟩
 have h4:∀(K:aG) (w':Cw) (vs vd:A),tN c h o s y id ev m dZ b H1 (1+4) K w' vs vd→bG Cx (.code (.loop iM)::KK) ⟨[(1,.ptr b 0),(4,.ptr r4 0),(8,.ptr r8 0),(9,.ptr r9 0),(36,.agg [.v (.func (.func 289) #[] #[]),.v (.func (.func 290) #[] #[]),.v (.func (.func 291) #[] #[]),.v (.func (.func 292) #[] #[]),.v (.func (.func 293) #[] #[]),.v (.func (.func 294) #[] #[]),.v (.func (.func 295) #[] #[]),.v (.func (.func 296) #[] #[]),.v (.func (.func 297) #[] #[]),.v (.func (.func 298) #[] #[])]),(37,I64 4)],K⟩ Q:=by
  intro K w' vs vd F
  have g9:=F.same hz9 n9
  rw[aA]
  simp(disch:=omega)only[go_sem,simprocAttr,g9]
  refine bD (fun _=>?_) (fun _=>?_)
  ·simp(disch:=omega)only[go_sem,simprocAttr]
   refine aM (a9r hk mo hid _ _ _ _ F.at_ F.ok (Nat.le_trans F.sent (by decide)) (Nat.le_trans F.done (by decide))) ?_
   rintro y' K' ⟨rfl,w2,vs2,vd2,a2,k2,l2,e2,p2⟩
   simp(disch:=omega)only[go_sem,simprocAttr]
   rw[aB (l:=[1,4,8,9,36,37]) rfl]
   simp(disch:=omega)only[go_sem,simprocAttr]
   exact h5 _ _ _ _ ⟨a2,k2,Nat.le_trans l2 (Nat.add_le_add_right F.sent 1),Nat.le_trans e2 (Nat.add_le_add_right F.done 1),F.kq.trans p2⟩
  ·simp(disch:=omega)only[go_sem,simprocAttr]
   rw[aB (l:=[1,4,8,9,36,37]) rfl]
   simp(disch:=omega)only[go_sem,simprocAttr]
   exact h5 _ _ _ _ ⟨F.at_,F.ok,Nat.le_trans F.sent (by decide),Nat.le_trans F.done (by decide),F.kq⟩
 have h3:∀(K:aG) (w':Cw) (vs vd:A),tN c h o s y id ev m dZ b H1 (1+3) K w' vs vd→bG Cx (.code (.loop iM)::KK) ⟨[(1,.ptr b 0),(4,.ptr r4 0),(8,.ptr r8 0),(9,.ptr r9 0),(36,.agg [.v (.func (.func 289) #[] #[]),.v (.func (.func 290) #[] #[]),.v (.func (.func 291) #[] #[]),.v (.func (.func 292) #[] #[]),.v (.func (.func 293) #[] #[]),.v (.func (.func 294) #[] #[]),.v (.func (.func 295) #[] #[]),.v (.func (.func 296) #[] #[]),.v (.func (.func 297) #[] #[]),.v (.func (.func 298) #[] #[])]),(37,I64 3)],K⟩ Q:=by
  intro K w' vs vd F
  have g9:=F.same hz9 n9
  rw[aA]
  simp(disch:=omega)only[go_sem,simprocAttr,g9]
  refine bD (fun _=>?_) (fun _=>?_)
  ·simp(disch:=omega)only[go_sem,simprocAttr]
   refine aM (bDl hk mo hid _ _ _ _ F.at_ F.ok (Nat.le_trans F.sent (by decide)) (Nat.le_trans F.done (by decide))) ?_
   rintro y' K' ⟨rfl,w2,vs2,vd2,a2,k2,l2,e2,p2⟩
   simp(disch:=omega)only[go_sem,simprocAttr]
   rw[aB (l:=[1,4,8,9,36,37]) rfl]
   simp(disch:=omega)only[go_sem,simprocAttr]
   exact h4 _ _ _ _ ⟨a2,k2,Nat.le_trans l2 (Nat.add_le_add_right F.sent 1),Nat.le_trans e2 (Nat.add_le_add_right F.done 1),F.kq.trans p2⟩
  ·simp(disch:=omega)only[go_sem,simprocAttr]
   rw[aB (l:=[1,4,8,9,36,37]) rfl]
   simp(disch:=omega)only[go_sem,simprocAttr]
   exact h4 _ _ _ _ ⟨F.at_,F.ok,Nat.le_trans F.sent (by decide),Nat.le_trans F.done (by decide),F.kq⟩
 have h2:∀(K:aG) (w':Cw) (vs vd:A),tN c h o s y id ev m dZ b H1 (1+2) K w' vs vd→bG Cx (.code (.loop iM)::KK) ⟨[(1,.ptr b 0),(4,.ptr r4 0),(8,.ptr r8 0),(9,.ptr r9 0),(36,.agg [.v (.func (.func 289) #[] #[]),.v (.func (.func 290) #[] #[]),.v (.func (.func 291) #[] #[]),.v (.func (.func 292) #[] #[]),.v (.func (.func 293) #[] #[]),.v (.func (.func 294) #[] #[]),.v (.func (.func 295) #[] #[]),.v (.func (.func 296) #[] #[]),.v (.func (.func 297) #[] #[]),.v (.func (.func 298) #[] #[])]),(37,I64 2)],K⟩ Q:=by
  intro K w' vs vd F
  have g9:=F.same hz9 n9
  rw[aA]
  simp(disch:=omega)only[go_sem,simprocAttr,g9]
  refine bD (fun _=>?_) (fun _=>?_)
  ·simp(disch:=omega)only[go_sem,simprocAttr]
   refine aM (a4G hk mo hid _ _ _ _ F.at_ F.ok (Nat.le_trans F.sent (by decide)) (Nat.le_trans F.done (by decide))) ?_
   rintro y' K' ⟨rfl,w2,vs2,vd2,a2,k2,l2,e2,p2⟩
   simp(disch:=omega)only[go_sem,simprocAttr]
   rw[aB (l:=[1,4,8,9,36,37]) rfl]
   simp(disch:=omega)only[go_sem,simprocAttr]
   exact h3 _ _ _ _ ⟨a2,k2,Nat.le_trans l2 (Nat.add_le_add_right F.sent 1),Nat.le_trans e2 (Nat.add_le_add_right F.done 1),F.kq.trans p2⟩
  ·simp(disch:=omega)only[go_sem,simprocAttr]
   rw[aB (l:=[1,4,8,9,36,37]) rfl]
   simp(disch:=omega)only[go_sem,simprocAttr]
   exact h3 _ _ _ _ ⟨F.at_,F.ok,Nat.le_trans F.sent (by decide),Nat.le_trans F.done (by decide),F.kq⟩
 have h1:∀(K:aG) (w':Cw) (vs vd:A),tN c h o s y id ev m dZ b H1 (1+1) K w' vs vd→bG Cx (.code (.loop iM)::KK) ⟨[(1,.ptr b 0),(4,.ptr r4 0),(8,.ptr r8 0),(9,.ptr r9 0),(36,.agg [.v (.func (.func 289) #[] #[]),.v (.func (.func 290) #[] #[]),.v (.func (.func 291) #[] #[]),.v (.func (.func 292) #[] #[]),.v (.func (.func 293) #[] #[]),.v (.func (.func 294) #[] #[]),.v (.func (.func 295) #[] #[]),.v (.func (.func 296) #[] #[]),.v (.func (.func 297) #[] #[]),.v (.func (.func 298) #[] #[])]),(37,I64 1)],K⟩ Q:=by
  intro K w' vs vd F
  have g9:=F.same hz9 n9
  rw[aA]
  simp(disch:=omega)only[go_sem,simprocAttr,g9]
  refine bD (fun _=>?_) (fun _=>?_)
  ·simp(disch:=omega)only[go_sem,simprocAttr]
   refine aM (bCh hk mo hid _ _ _ _ F.at_ F.ok (Nat.le_trans F.sent (by decide)) (Nat.le_trans F.done (by decide))) ?_
   rintro y' K' ⟨rfl,w2,vs2,vd2,a2,k2,l2,e2,p2⟩
   simp(disch:=omega)only[go_sem,simprocAttr]
   rw[aB (l:=[1,4,8,9,36,37]) rfl]
   simp(disch:=omega)only[go_sem,simprocAttr]
   exact h2 _ _ _ _ ⟨a2,k2,Nat.le_trans l2 (Nat.add_le_add_right F.sent 1),Nat.le_trans e2 (Nat.add_le_add_right F.done 1),F.kq.trans p2⟩
  ·simp(disch:=omega)only[go_sem,simprocAttr]
   rw[aB (l:=[1,4,8,9,36,37]) rfl]
   simp(disch:=omega)only[go_sem,simprocAttr]
   exact h2 _ _ _ _ ⟨F.at_,F.ok,Nat.le_trans F.sent (by decide),Nat.le_trans F.done (by decide),F.kq⟩
 have h0:∀(K:aG) (w':Cw) (vs vd:A),tN c h o s y id ev m dZ b H1 (1+0) K w' vs vd→bG Cx (.code (.loop iM)::KK) ⟨[(1,.ptr b 0),(4,.ptr r4 0),(8,.ptr r8 0),(9,.ptr r9 0),(36,.agg [.v (.func (.func 289) #[] #[]),.v (.func (.func 290) #[] #[]),.v (.func (.func 291) #[] #[]),.v (.func (.func 292) #[] #[]),.v (.func (.func 293) #[] #[]),.v (.func (.func 294) #[] #[]),.v (.func (.func 295) #[] #[]),.v (.func (.func 296) #[] #[]),.v (.func (.func 297) #[] #[]),.v (.func (.func 298) #[] #[])]),(37,I64 0)],K⟩ Q:=by
  intro K w' vs vd F
  have g9:=F.same hz9 n9
  rw[aA]
  simp(disch:=omega)only[go_sem,simprocAttr,g9]
  refine bD (fun _=>?_) (fun _=>?_)
  ·simp(disch:=omega)only[go_sem,simprocAttr]
   refine aM (a32 mo _ _ _ _ F.at_ F.ok (Nat.le_trans F.sent (by decide)) (Nat.le_trans F.done (by decide))) ?_
   rintro y' K' ⟨rfl,w2,vs2,vd2,a2,k2,l2,e2,p2⟩
   simp(disch:=omega)only[go_sem,simprocAttr]
   rw[aB (l:=[1,4,8,9,36,37]) rfl]
   simp(disch:=omega)only[go_sem,simprocAttr]
   exact h1 _ _ _ _ ⟨a2,k2,Nat.le_trans l2 (Nat.add_le_add_right F.sent 1),Nat.le_trans e2 (Nat.add_le_add_right F.done 1),F.kq.trans p2⟩
  ·simp(disch:=omega)only[go_sem,simprocAttr]
   rw[aB (l:=[1,4,8,9,36,37]) rfl]
   simp(disch:=omega)only[go_sem,simprocAttr]
   exact h1 _ _ _ _ ⟨F.at_,F.ok,Nat.le_trans F.sent (by decide),Nat.le_trans F.done (by decide),F.kq⟩
 exact h0 _ _ _ _ ⟨a,k,hs,hd,Kq.refl _ _ _ _⟩
end
end Go.Proofs.YtpdphobnchajbaaGreatDoor.Ev
