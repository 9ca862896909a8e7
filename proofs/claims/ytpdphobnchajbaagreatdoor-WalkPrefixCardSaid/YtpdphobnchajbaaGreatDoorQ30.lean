/- home: a cell's actions, in order. -/
import Derived.Test.YtpdphobnchajbaaGreatDoorQ29
set_option linter.unusedSimpArgs false
set_option linter.unusedVariables false
namespace Go.Proofs.YtpdphobnchajbaaGreatDoor.Ev
open Go Go.RowKit
set_option maxRecDepth 100000
set_option maxHeartbeats 16000000
section
variable{c h o s y id:Int}{m:Mg}{b:Nat}
structure Far(c h o s y id:Int)(m:Mg)(b:Nat)(H0:aG)(v0:A)(L:Nat)(K:aG)(st:Hs)(v:A):Prop where
 at_:HAt c h o s y id m b K st v
 ok:st.Ok
 out:st.out.length≤L
 kp:Kp H0 K b v0 v
theorem aBZ(hk:OkG c h o s y)(mo:m.Ok)(hid:0≤id∧id<256){H:aG}{st:Hs}{v:A}(a:HAt c h o s y id m b H st v)(k:st.Ok)(hl:st.out.length≤100)(acts:Nat)(ha:acts<65536) :
  bW Cx 197 [.ptr b 0,U16 acts] H fun y' K=>y'=.tup []∧∃ st' v',HAt c h o s y id m b K st' v'∧st'.Ok∧st'.out.length≤200∧Kp H K b v v':=by
 rw[aP a0w aTH];refine⟨by simp[J6],?_⟩
 have h15:∀(K:aG) (st':Hs) (v':A),Far c h o s y id m b H v (100+4*15) K st' v'→bG Cx (.code (.loop fU)::.blk 0::[]) ⟨[(0,.ptr b 0),(1,U16 acts),(8,.agg [.v (.func (.func 234) #[] #[]),.v (.func (.func 235) #[] #[]),.v (.func (.func 236) #[] #[]),.v (.func (.func 237) #[] #[]),.v (.func (.func 238) #[] #[]),.v (.func (.func 239) #[] #[]),.v (.func (.func 240) #[] #[]),.v (.func (.func 241) #[] #[]),.v (.func (.func 242) #[] #[]),.v (.func (.func 243) #[] #[]),.v (.func (.func 244) #[] #[]),.v (.func (.func 245) #[] #[]),.v (.func (.func 246) #[] #[]),.v (.func (.func 247) #[] #[]),.v (.func (.func 248) #[] #[])]),(9,I64 15)],K⟩ (lB Cx [] fun y' K=>y'=.tup []∧∃ st' v',HAt c h o s y id m b K st' v'∧st'.Ok∧st'.out.length≤200∧Kp H K b v v'):=by
  intro K st' v' F
  rw[aA]
  simp(disch:=omega)only[go_sem,simprocAttr,aW]
  exact⟨_,_,F.at_,F.ok,Nat.le_trans F.out (by decide),F.kp⟩
 have h14:∀(K:aG) (st':Hs) (v':A),Far c h o s y id m b H v (100+4*14) K st' v'→bG Cx (.code (.loop fU)::.blk 0::[]) ⟨[(0,.ptr b 0),(1,U16 acts),(8,.agg [.v (.func (.func 234) #[] #[]),.v (.func (.func 235) #[] #[]),.v (.func (.func 236) #[] #[]),.v (.func (.func 237) #[] #[]),.v (.func (.func 238) #[] #[]),.v (.func (.func 239) #[] #[]),.v (.func (.func 240) #[] #[]),.v (.func (.func 241) #[] #[]),.v (.func (.func 242) #[] #[]),.v (.func (.func 243) #[] #[]),.v (.func (.func 244) #[] #[]),.v (.func (.func 245) #[] #[]),.v (.func (.func 246) #[] #[]),.v (.func (.func 247) #[] #[]),.v (.func (.func 248) #[] #[])]),(9,I64 14)],K⟩ (lB Cx [] fun y' K=>y'=.tup []∧∃ st' v',HAt c h o s y id m b K st' v'∧st'.Ok∧st'.out.length≤200∧Kp H K b v v'):=by
  intro K st' v' F
  rw[aA]
  simp(disch:=omega)only[go_sem,simprocAttr]
  refine bD (fun _=>?_) (fun _=>?_)
  ·simp(disch:=omega)only[go_sem,simprocAttr]
   refine aM (aTV  _ _ _ F.at_ F.ok (Nat.le_trans F.out (by decide))) ?_
   rintro y' K' ⟨rfl,s2,v2,a2,k2,l2,p2⟩
   simp(disch:=omega)only[go_sem,simprocAttr]
   rw[aB (l:=[0,1,8,9]) rfl]
   simp(disch:=omega)only[go_sem,simprocAttr]
   exact h15 _ _ _ ⟨a2,k2,Nat.le_trans l2 (Nat.add_le_add_right F.out 4),F.kp.trans p2⟩
  ·simp(disch:=omega)only[go_sem,simprocAttr]
   rw[aB (l:=[0,1,8,9]) rfl]
   simp(disch:=omega)only[go_sem,simprocAttr]
   exact h15 _ _ _ ⟨F.at_,F.ok,Nat.le_trans F.out (by decide),F.kp⟩
 have h13:∀(K:aG) (st':Hs) (v':A),Far c h o s y id m b H v (100+4*13) K st' v'→bG Cx (.code (.loop fU)::.blk 0::[]) ⟨[(0,.ptr b 0),(1,U16 acts),(8,.agg [.v (.func (.func 234) #[] #[]),.v (.func (.func 235) #[] #[]),.v (.func (.func 236) #[] #[]),.v (.func (.func 237) #[] #[]),.v (.func (.func 238) #[] #[]),.v (.func (.func 239) #[] #[]),.v (.func (.func 240) #[] #[]),.v (.func (.func 241) #[] #[]),.v (.func (.func 242) #[] #[]),.v (.func (.func 243) #[] #[]),.v (.func (.func 244) #[] #[]),.v (.func (.func 245) #[] #[]),.v (.func (.func 246) #[] #[]),.v (.func (.func 247) #[] #[]),.v (.func (.func 248) #[] #[])]),(9,I64 13)],K⟩ (lB Cx [] fun y' K=>y'=.tup []∧∃ st' v',HAt c h o s y id m b K st' v'∧st'.Ok∧st'.out.length≤200∧Kp H K b v v'):=by
  intro K st' v' F
  rw[aA]
  simp(disch:=omega)only[go_sem,simprocAttr]
  refine bD (fun _=>?_) (fun _=>?_)
  ·simp(disch:=omega)only[go_sem,simprocAttr]
   refine aM (a9X mo _ _ _ F.at_ F.ok (Nat.le_trans F.out (by decide))) ?_
   rintro y' K' ⟨rfl,s2,v2,a2,k2,l2,p2⟩
   simp(disch:=omega)only[go_sem,simprocAttr]
   rw[aB (l:=[0,1,8,9]) rfl]
   simp(disch:=omega)only[go_sem,simprocAttr]
   exact h14 _ _ _ ⟨a2,k2,Nat.le_trans l2 (Nat.add_le_add_right F.out 4),F.kp.trans p2⟩
  ·simp(disch:=omega)only[go_sem,simprocAttr]
   rw[aB (l:=[0,1,8,9]) rfl]
   simp(disch:=omega)only[go_sem,simprocAttr]
   exact h14 _ _ _ ⟨F.at_,F.ok,Nat.le_trans F.out (by decide),F.kp⟩
 have h12:∀(K:aG) (st':Hs) (v':A),Far c h o s y id m b H v (100+4*12) K st' v'→bG Cx (.code (.loop fU)::.blk 0::[]) ⟨[(0,.ptr b 0),(1,U16 acts),(8,.agg [.v (.func (.func 234) #[] #[]),.v (.func (.func 235) #[] #[]),.v (.func (.func 236) #[] #[]),.v (.func (.func 237) #[] #[]),.v (.func (.func 238) #[] #[]),.v (.func (.func 239) #[] #[]),.v (.func (.func 240) #[] #[]),.v (.func (.func 241) #[] #[]),.v (.func (.func 242) #[] #[]),.v (.func (.func 243) #[] #[]),.v (.func (.func 244) #[] #[]),.v (.func (.func 245) #[] #[]),.v (.func (.func 246) #[] #[]),.v (.func (.func 247) #[] #[]),.v (.func (.func 248) #[] #[])]),(9,I64 12)],K⟩ (lB Cx [] fun y' K=>y'=.tup []∧∃ st' v',HAt c h o s y id m b K st' v'∧st'.Ok∧st'.out.length≤200∧Kp H K b v v'):=by
  intro K st' v' F
  rw[aA]
  simp(disch:=omega)only[go_sem,simprocAttr]
  refine bD (fun _=>?_) (fun _=>?_)
  ·simp(disch:=omega)only[go_sem,simprocAttr]
   refine aM (a9F  _ _ _ F.at_ F.ok (Nat.le_trans F.out (by decide))) ?_
   rintro y' K' ⟨rfl,s2,v2,a2,k2,l2,p2⟩
   simp(disch:=omega)only[go_sem,simprocAttr]
   rw[aB (l:=[0,1,8,9]) rfl]
   simp(disch:=omega)only[go_sem,simprocAttr]
   exact h13 _ _ _ ⟨a2,k2,Nat.le_trans l2 (Nat.add_le_add_right F.out 4),F.kp.trans p2⟩
  ·simp(disch:=omega)only[go_sem,simprocAttr]
   rw[aB (l:=[0,1,8,9]) rfl]
   simp(disch:=omega)only[go_sem,simprocAttr]
   exact h13 _ _ _ ⟨F.at_,F.ok,Nat.le_trans F.out (by decide),F.kp⟩
 have h11:∀(K:aG) (st':Hs) (v':A),Far c h o s y id m b H v (100+4*11) K st' v'→bG Cx (.code (.loop fU)::.blk 0::[]) ⟨[(0,.ptr b 0),(1,U16 acts),(8,.agg [.v (.func (.func 234) #[] #[]),.v (.func (.func 235) #[] #[]),.v (.func (.func 236) #[] #[]),.v (.func (.func 237) #[] #[]),.v (.func (.func 238) #[] #[]),.v (.func (.func 239) #[] #[]),.v (.func (.func 240) #[] #[]),.v (.func (.func 241) #[] #[]),.v (.func (.func 242) #[] #[]),.v (.func (.func 243) #[] #[]),.v (.func (.func 244) #[] #[]),.v (.func (.func 245) #[] #[]),.v (.func (.func 246) #[] #[]),.v (.func (.func 247) #[] #[]),.v (.func (.func 248) #[] #[])]),(9,I64 11)],K⟩ (lB Cx [] fun y' K=>y'=.tup []∧∃ st' v',HAt c h o s y id m b K st' v'∧st'.Ok∧st'.out.length≤200∧Kp H K b v v'):=by
  intro K st' v' F
  rw[aA]
  simp(disch:=omega)only[go_sem,simprocAttr]
  refine bD (fun _=>?_) (fun _=>?_)
  ·simp(disch:=omega)only[go_sem,simprocAttr]
   refine aM (bB8 mo _ _ _ F.at_ F.ok (Nat.le_trans F.out (by decide))) ?_
   rintro y' K' ⟨rfl,s2,v2,a2,k2,l2,p2⟩
   simp(disch:=omega)only[go_sem,simprocAttr]
   rw[aB (l:=[0,1,8,9]) rfl]
   simp(disch:=omega)only[go_sem,simprocAttr]
   exact h12 _ _ _ ⟨a2,k2,Nat.le_trans l2 (Nat.add_le_add_right F.out 4),F.kp.trans p2⟩
  ·simp(disch:=omega)only[go_sem,simprocAttr]
   rw[aB (l:=[0,1,8,9]) rfl]
   simp(disch:=omega)only[go_sem,simprocAttr]
   exact h12 _ _ _ ⟨F.at_,F.ok,Nat.le_trans F.out (by decide),F.kp⟩
 have h10:∀(K:aG) (st':Hs) (v':A),Far c h o s y id m b H v (100+4*10) K st' v'→bG Cx (.code (.loop fU)::.blk 0::[]) ⟨[(0,.ptr b 0),(1,U16 acts),(8,.agg [.v (.func (.func 234) #[] #[]),.v (.func (.func 235) #[] #[]),.v (.func (.func 236) #[] #[]),.v (.func (.func 237) #[] #[]),.v (.func (.func 238) #[] #[]),.v (.func (.func 239) #[] #[]),.v (.func (.func 240) #[] #[]),.v (.func (.func 241) #[] #[]),.v (.func (.func 242) #[] #[]),.v (.func (.func 243) #[] #[]),.v (.func (.func 244) #[] #[]),.v (.func (.func 245) #[] #[]),.v (.func (.func 246) #[] #[]),.v (.func (.func 247) #[] #[]),.v (.func (.func 248) #[] #[])]),(9,I64 10)],K⟩ (lB Cx [] fun y' K=>y'=.tup []∧∃ st' v',HAt c h o s y id m b K st' v'∧st'.Ok∧st'.out.length≤200∧Kp H K b v v'):=by
  intro K st' v' F
  rw[aA]
  simp(disch:=omega)only[go_sem,simprocAttr]
  refine bD (fun _=>?_) (fun _=>?_)
  ·simp(disch:=omega)only[go_sem,simprocAttr]
   refine aM (a4j  _ _ _ F.at_ F.ok (Nat.le_trans F.out (by decide))) ?_
   rintro y' K' ⟨rfl,s2,v2,a2,k2,l2,p2⟩
   simp(disch:=omega)only[go_sem,simprocAttr]
   rw[aB (l:=[0,1,8,9]) rfl]
   simp(disch:=omega)only[go_sem,simprocAttr]
   exact h11 _ _ _ ⟨a2,k2,Nat.le_trans l2 (Nat.add_le_add_right F.out 4),F.kp.trans p2⟩
  ·simp(disch:=omega)only[go_sem,simprocAttr]
   rw[aB (l:=[0,1,8,9]) rfl]
   simp(disch:=omega)only[go_sem,simprocAttr]
   exact h11 _ _ _ ⟨F.at_,F.ok,Nat.le_trans F.out (by decide),F.kp⟩
 have h9:∀(K:aG) (st':Hs) (v':A),Far c h o s y id m b H v (100+4*9) K st' v'→bG Cx (.code (.loop fU)::.blk 0::[]) ⟨[(0,.ptr b 0),(1,U16 acts),(8,.agg [.v (.func (.func 234) #[] #[]),.v (.func (.func 235) #[] #[]),.v (.func (.func 236) #[] #[]),.v (.func (.func 237) #[] #[]),.v (.func (.func 238) #[] #[]),.v (.func (.func 239) #[] #[]),.v (.func (.func 240) #[] #[]),.v (.func (.func 241) #[] #[]),.v (.func (.func 242) #[] #[]),.v (.func (.func 243) #[] #[]),.v (.func (.func 244) #[] #[]),.v (.func (.func 245) #[] #[]),.v (.func (.func 246) #[] #[]),.v (.func (.func 247) #[] #[]),.v (.func (.func 248) #[] #[])]),(9,I64 9)],K⟩ (lB Cx [] fun y' K=>y'=.tup []∧∃ st' v',HAt c h o s y id m b K st' v'∧st'.Ok∧st'.out.length≤200∧Kp H K b v v'):=by
  intro K st' v' F
  rw[aA]
  simp(disch:=omega)only[go_sem,simprocAttr]
  refine bD (fun _=>?_) (fun _=>?_)
  ·simp(disch:=omega)only[go_sem,simprocAttr]
   refine aM (a64 mo _ _ _ F.at_ F.ok (Nat.le_trans F.out (by decide))) ?_
   rintro y' K' ⟨rfl,s2,v2,a2,k2,l2,p2⟩
   simp(disch:=omega)only[go_sem,simprocAttr]
   rw[aB (l:=[0,1,8,9]) rfl]
   simp(disch:=omega)only[go_sem,simprocAttr]
   exact h10 _ _ _ ⟨a2,k2,Nat.le_trans l2 (Nat.add_le_add_right F.out 4),F.kp.trans p2⟩
  ·simp(disch:=omega)only[go_sem,simprocAttr]
   rw[aB (l:=[0,1,8,9]) rfl]
   simp(disch:=omega)only[go_sem,simprocAttr]
   exact h10 _ _ _ ⟨F.at_,F.ok,Nat.le_trans F.out (by decide),F.kp⟩
 have h8:∀(K:aG) (st':Hs) (v':A),Far c h o s y id m b H v (100+4*8) K st' v'→bG Cx (.code (.loop fU)::.blk 0::[]) ⟨[(0,.ptr b 0),(1,U16 acts),(8,.agg [.v (.func (.func 234) #[] #[]),.v (.func (.func 235) #[] #[]),.v (.func (.func 236) #[] #[]),.v (.func (.func 237) #[] #[]),.v (.func (.func 238) #[] #[]),.v (.func (.func 239) #[] #[]),.v (.func (.func 240) #[] #[]),.v (.func (.func 241) #[] #[]),.v (.func (.func 242) #[] #[]),.v (.func (.func 243) #[] #[]),.v (.func (.func 244) #[] #[]),.v (.func (.func 245) #[] #[]),.v (.func (.func 246) #[] #[]),.v (.func (.func 247) #[] #[]),.v (.func (.func 248) #[] #[])]),(9,I64 8)],K⟩ (lB Cx [] fun y' K=>y'=.tup []∧∃ st' v',HAt c h o s y id m b K st' v'∧st'.Ok∧st'.out.length≤200∧Kp H K b v v'):=by
  intro K st' v' F
  rw[aA]
  simp(disch:=omega)only[go_sem,simprocAttr]
  refine bD (fun _=>?_) (fun _=>?_)
  ·simp(disch:=omega)only[go_sem,simprocAttr]
   refine aM (a05  _ _ _ F.at_ F.ok (Nat.le_trans F.out (by decide))) ?_
   rintro y' K' ⟨rfl,s2,v2,a2,k2,l2,p2⟩
   simp(disch:=omega)only[go_sem,simprocAttr]
   rw[aB (l:=[0,1,8,9]) rfl]
   simp(disch:=omega)only[go_sem,simprocAttr]
   exact h9 _ _ _ ⟨a2,k2,Nat.le_trans l2 (Nat.add_le_add_right F.out 4),F.kp.trans p2⟩
  ·simp(disch:=omega)only[go_sem,simprocAttr]
   rw[aB (l:=[0,1,8,9]) rfl]
   simp(disch:=omega)only[go_sem,simprocAttr]
   exact h9 _ _ _ ⟨F.at_,F.ok,Nat.le_trans F.out (by decide),F.kp⟩
 have h7:∀(K:aG) (st':Hs) (v':A),Far c h o s y id m b H v (100+4*7) K st' v'→bG Cx (.code (.loop fU)::.blk 0::[]) ⟨[(0,.ptr b 0),(1,U16 acts),(8,.agg [.v (.func (.func 234) #[] #[]),.v (.func (.func 235) #[] #[]),.v (.func (.func 236) #[] #[]),.v (.func (.func 237) #[] #[]),.v (.func (.func 238) #[] #[]),.v (.func (.func 239) #[] #[]),.v (.func (.func 240) #[] #[]),.v (.func (.func 241) #[] #[]),.v (.func (.func 242) #[] #[]),.v (.func (.func 243) #[] #[]),.v (.func (.func 244) #[] #[]),.v (.func (.func 245) #[] #[]),.v (.func (.func 246) #[] #[]),.v (.func (.func 247) #[] #[]),.v (.func (.func 248) #[] #[])]),(9,I64 7)],K⟩ (lB Cx [] fun y' K=>y'=.tup []∧∃ st' v',HAt c h o s y id m b K st' v'∧st'.Ok∧st'.out.length≤200∧Kp H K b v v'):=by
  intro K st' v' F
  rw[aA]
  simp(disch:=omega)only[go_sem,simprocAttr]
  refine bD (fun _=>?_) (fun _=>?_)
  ·simp(disch:=omega)only[go_sem,simprocAttr]
   refine aM (a4f mo hid _ _ _ F.at_ F.ok (Nat.le_trans F.out (by decide))) ?_
   rintro y' K' ⟨rfl,s2,v2,a2,k2,l2,p2⟩
   simp(disch:=omega)only[go_sem,simprocAttr]
   rw[aB (l:=[0,1,8,9]) rfl]
   simp(disch:=omega)only[go_sem,simprocAttr]
   exact h8 _ _ _ ⟨a2,k2,Nat.le_trans l2 (Nat.add_le_add_right F.out 4),F.kp.trans p2⟩
  ·simp(disch:=omega)only[go_sem,simprocAttr]
   rw[aB (l:=[0,1,8,9]) rfl]
   simp(disch:=omega)only[go_sem,simprocAttr]
   exact h8 _ _ _ ⟨F.at_,F.ok,Nat.le_trans F.out (by decide),F.kp⟩
 have h6:∀(K:aG) (st':Hs) (v':A),Far c h o s y id m b H v (100+4*6) K st' v'→bG Cx (.code (.loop fU)::.blk 0::[]) ⟨[(0,.ptr b 0),(1,U16 acts),(8,.agg [.v (.func (.func 234) #[] #[]),.v (.func (.func 235) #[] #[]),.v (.func (.func 236) #[] #[]),.v (.func (.func 237) #[] #[]),.v (.func (.func 238) #[] #[]),.v (.func (.func 239) #[] #[]),.v (.func (.func 240) #[] #[]),.v (.func (.func 241) #[] #[]),.v (.func (.func 242) #[] #[]),.v (.func (.func 243) #[] #[]),.v (.func (.func 244) #[] #[]),.v (.func (.func 245) #[] #[]),.v (.func (.func 246) #[] #[]),.v (.func (.func 247) #[] #[]),.v (.func (.func 248) #[] #[])]),(9,I64 6)],K⟩ (lB Cx [] fun y' K=>y'=.tup []∧∃ st' v',HAt c h o s y id m b K st' v'∧st'.Ok∧st'.out.length≤200∧Kp H K b v v'):=by
  intro K st' v' F
  rw[aA]
  simp(disch:=omega)only[go_sem,simprocAttr]
  refine bD (fun _=>?_) (fun _=>?_)
  ·simp(disch:=omega)only[go_sem,simprocAttr]
   refine aM (aWU mo _ _ _ F.at_ F.ok (Nat.le_trans F.out (by decide))) ?_
   rintro y' K' ⟨rfl,s2,v2,a2,k2,l2,p2⟩
   simp(disch:=omega)only[go_sem,simprocAttr]
   rw[aB (l:=[0,1,8,9]) rfl]
   simp(disch:=omega)only[go_sem,simprocAttr]
   exact h7 _ _ _ ⟨a2,k2,Nat.le_trans l2 (Nat.add_le_add_right F.out 4),F.kp.trans p2⟩
  ·simp(disch:=omega)only[go_sem,simprocAttr]
   rw[aB (l:=[0,1,8,9]) rfl]
   simp(disch:=omega)only[go_sem,simprocAttr]
   exact h7 _ _ _ ⟨F.at_,F.ok,Nat.le_trans F.out (by decide),F.kp⟩
 have h5:∀(K:aG) (st':Hs) (v':A),Far c h o s y id m b H v (100+4*5) K st' v'→bG Cx (.code (.loop fU)::.blk 0::[]) ⟨[(0,.ptr b 0),(1,U16 acts),(8,.agg [.v (.func (.func 234) #[] #[]),.v (.func (.func 235) #[] #[]),.v (.func (.func 236) #[] #[]),.v (.func (.func 237) #[] #[]),.v (.func (.func 238) #[] #[]),.v (.func (.func 239) #[] #[]),.v (.func (.func 240) #[] #[]),.v (.func (.func 241) #[] #[]),.v (.func (.func 242) #[] #[]),.v (.func (.func 243) #[] #[]),.v (.func (.func 244) #[] #[]),.v (.func (.func 245) #[] #[]),.v (.func (.func 246) #[] #[]),.v (.func (.func 247) #[] #[]),.v (.func (.func 248) #[] #[])]),(9,I64 5)],K⟩ (lB Cx [] fun y' K=>y'=.tup []∧∃ st' v',HAt c h o s y id m b K st' v'∧st'.Ok∧st'.out.length≤200∧Kp H K b v v'):=by
  intro K st' v' F
  rw[aA]
  simp(disch:=omega)only[go_sem,simprocAttr]
  refine bD (fun _=>?_) (fun _=>?_)
  ·simp(disch:=omega)only[go_sem,simprocAttr]
   refine aM (a3i mo hid _ _ _ F.at_ F.ok (Nat.le_trans F.out (by decide))) ?_
   rintro y' K' ⟨rfl,s2,v2,a2,k2,l2,p2⟩
   simp(disch:=omega)only[go_sem,simprocAttr]
   rw[aB (l:=[0,1,8,9]) rfl]
   simp(disch:=omega)only[go_sem,simprocAttr]
   exact h6 _ _ _ ⟨a2,k2,Nat.le_trans l2 (Nat.add_le_add_right F.out 4),F.kp.trans p2⟩
  ·simp(disch:=omega)only[go_sem,simprocAttr]
   rw[aB (l:=[0,1,8,9]) rfl]
   simp(disch:=omega)only[go_sem,simprocAttr]
   exact h6 _ _ _ ⟨F.at_,F.ok,Nat.le_trans F.out (by decide),F.kp⟩
 have h4:∀(K:aG) (st':Hs) (v':A),Far c h o s y id m b H v (100+4*4) K st' v'→bG Cx (.code (.loop fU)::.blk 0::[]) ⟨[(0,.ptr b 0),(1,U16 acts),(8,.agg [.v (.func (.func 234) #[] #[]),.v (.func (.func 235) #[] #[]),.v (.func (.func 236) #[] #[]),.v (.func (.func 237) #[] #[]),.v (.func (.func 238) #[] #[]),.v (.func (.func 239) #[] #[]),.v (.func (.func 240) #[] #[]),.v (.func (.func 241) #[] #[]),.v (.func (.func 242) #[] #[]),.v (.func (.func 243) #[] #[]),.v (.func (.func 244) #[] #[]),.v (.func (.func 245) #[] #[]),.v (.func (.func 246) #[] #[]),.v (.func (.func 247) #[] #[]),.v (.func (.func 248) #[] #[])]),(9,I64 4)],K⟩ (lB Cx [] fun y' K=>y'=.tup []∧∃ st' v',HAt c h o s y id m b K st' v'∧st'.Ok∧st'.out.length≤200∧Kp H K b v v'):=by
  intro K st' v' F
  rw[aA]
  simp(disch:=omega)only[go_sem,simprocAttr]
  refine bD (fun _=>?_) (fun _=>?_)
  ·simp(disch:=omega)only[go_sem,simprocAttr]
   refine aM (a4m mo hid _ _ _ F.at_ F.ok (Nat.le_trans F.out (by decide))) ?_
   rintro y' K' ⟨rfl,s2,v2,a2,k2,l2,p2⟩
   simp(disch:=omega)only[go_sem,simprocAttr]
   rw[aB (l:=[0,1,8,9]) rfl]
   simp(disch:=omega)only[go_sem,simprocAttr]
   exact h5 _ _ _ ⟨a2,k2,Nat.le_trans l2 (Nat.add_le_add_right F.out 4),F.kp.trans p2⟩
  ·simp(disch:=omega)only[go_sem,simprocAttr]
   rw[aB (l:=[0,1,8,9]) rfl]
   simp(disch:=omega)only[go_sem,simprocAttr]
   exact h5 _ _ _ ⟨F.at_,F.ok,Nat.le_trans F.out (by decide),F.kp⟩
 have h3:∀(K:aG) (st':Hs) (v':A),Far c h o s y id m b H v (100+4*3) K st' v'→bG Cx (.code (.loop fU)::.blk 0::[]) ⟨[(0,.ptr b 0),(1,U16 acts),(8,.agg [.v (.func (.func 234) #[] #[]),.v (.func (.func 235) #[] #[]),.v (.func (.func 236) #[] #[]),.v (.func (.func 237) #[] #[]),.v (.func (.func 238) #[] #[]),.v (.func (.func 239) #[] #[]),.v (.func (.func 240) #[] #[]),.v (.func (.func 241) #[] #[]),.v (.func (.func 242) #[] #[]),.v (.func (.func 243) #[] #[]),.v (.func (.func 244) #[] #[]),.v (.func (.func 245) #[] #[]),.v (.func (.func 246) #[] #[]),.v (.func (.func 247) #[] #[]),.v (.func (.func 248) #[] #[])]),(9,I64 3)],K⟩ (lB Cx [] fun y' K=>y'=.tup []∧∃ st' v',HAt c h o s y id m b K st' v'∧st'.Ok∧st'.out.length≤200∧Kp H K b v v'):=by
  intro K st' v' F
  rw[aA]
  simp(disch:=omega)only[go_sem,simprocAttr]
  refine bD (fun _=>?_) (fun _=>?_)
  ·simp(disch:=omega)only[go_sem,simprocAttr]
   refine aM (a4A mo hid _ _ _ F.at_ F.ok (Nat.le_trans F.out (by decide))) ?_
   rintro y' K' ⟨rfl,s2,v2,a2,k2,l2,p2⟩
   simp(disch:=omega)only[go_sem,simprocAttr]
   rw[aB (l:=[0,1,8,9]) rfl]
   simp(disch:=omega)only[go_sem,simprocAttr]
   exact h4 _ _ _ ⟨a2,k2,Nat.le_trans l2 (Nat.add_le_add_right F.out 4),F.kp.trans p2⟩
  ·simp(disch:=omega)only[go_sem,simprocAttr]
   rw[aB (l:=[0,1,8,9]) rfl]
   simp(disch:=omega)only[go_sem,simprocAttr]
   exact h4 _ _ _ ⟨F.at_,F.ok,Nat.le_trans F.out (by decide),F.kp⟩
 have h2:∀(K:aG) (st':Hs) (v':A),Far c h o s y id m b H v (100+4*2) K st' v'→bG Cx (.code (.loop fU)::.blk 0::[]) ⟨[(0,.ptr b 0),(1,U16 acts),(8,.agg [.v (.func (.func 234) #[] #[]),.v (.func (.func 235) #[] #[]),.v (.func (.func 236) #[] #[]),.v (.func (.func 237) #[] #[]),.v (.func (.func 238) #[] #[]),.v (.func (.func 239) #[] #[]),.v (.func (.func 240) #[] #[]),.v (.func (.func 241) #[] #[]),.v (.func (.func 242) #[] #[]),.v (.func (.func 243) #[] #[]),.v (.func (.func 244) #[] #[]),.v (.func (.func 245) #[] #[]),.v (.func (.func 246) #[] #[]),.v (.func (.func 247) #[] #[]),.v (.func (.func 248) #[] #[])]),(9,I64 2)],K⟩ (lB Cx [] fun y' K=>y'=.tup []∧∃ st' v',HAt c h o s y id m b K st' v'∧st'.Ok∧st'.out.length≤200∧Kp H K b v v'):=by
  intro K st' v' F
  rw[aA]
  simp(disch:=omega)only[go_sem,simprocAttr]
  refine bD (fun _=>?_) (fun _=>?_)
  ·simp(disch:=omega)only[go_sem,simprocAttr]
   refine aM (aXP mo hid _ _ _ F.at_ F.ok (Nat.le_trans F.out (by decide))) ?_
   rintro y' K' ⟨rfl,s2,v2,a2,k2,l2,p2⟩
   simp(disch:=omega)only[go_sem,simprocAttr]
   rw[aB (l:=[0,1,8,9]) rfl]
   simp(disch:=omega)only[go_sem,simprocAttr]
   exact h3 _ _ _ ⟨a2,k2,Nat.le_trans l2 (Nat.add_le_add_right F.out 4),F.kp.trans p2⟩
  ·simp(disch:=omega)only[go_sem,simprocAttr]
   rw[aB (l:=[0,1,8,9]) rfl]
   simp(disch:=omega)only[go_sem,simprocAttr]
   exact h3 _ _ _ ⟨F.at_,F.ok,Nat.le_trans F.out (by decide),F.kp⟩
 have h1:∀(K:aG) (st':Hs) (v':A),Far c h o s y id m b H v (100+4*1) K st' v'→bG Cx (.code (.loop fU)::.blk 0::[]) ⟨[(0,.ptr b 0),(1,U16 acts),(8,.agg [.v (.func (.func 234) #[] #[]),.v (.func (.func 235) #[] #[]),.v (.func (.func 236) #[] #[]),.v (.func (.func 237) #[] #[]),.v (.func (.func 238) #[] #[]),.v (.func (.func 239) #[] #[]),.v (.func (.func 240) #[] #[]),.v (.func (.func 241) #[] #[]),.v (.func (.func 242) #[] #[]),.v (.func (.func 243) #[] #[]),.v (.func (.func 244) #[] #[]),.v (.func (.func 245) #[] #[]),.v (.func (.func 246) #[] #[]),.v (.func (.func 247) #[] #[]),.v (.func (.func 248) #[] #[])]),(9,I64 1)],K⟩ (lB Cx [] fun y' K=>y'=.tup []∧∃ st' v',HAt c h o s y id m b K st' v'∧st'.Ok∧st'.out.length≤200∧Kp H K b v v'):=by
  intro K st' v' F
  rw[aA]
  simp(disch:=omega)only[go_sem,simprocAttr]
  refine bD (fun _=>?_) (fun _=>?_)
  ·simp(disch:=omega)only[go_sem,simprocAttr]
   refine aM (bCr mo hid _ _ _ F.at_ F.ok (Nat.le_trans F.out (by decide))) ?_
   rintro y' K' ⟨rfl,s2,v2,a2,k2,l2,p2⟩
   simp(disch:=omega)only[go_sem,simprocAttr]
   rw[aB (l:=[0,1,8,9]) rfl]
   simp(disch:=omega)only[go_sem,simprocAttr]
   exact h2 _ _ _ ⟨a2,k2,Nat.le_trans l2 (Nat.add_le_add_right F.out 4),F.kp.trans p2⟩
  ·simp(disch:=omega)only[go_sem,simprocAttr]
   rw[aB (l:=[0,1,8,9]) rfl]
   simp(disch:=omega)only[go_sem,simprocAttr]
   exact h2 _ _ _ ⟨F.at_,F.ok,Nat.le_trans F.out (by decide),F.kp⟩
 have h0:∀(K:aG) (st':Hs) (v':A),Far c h o s y id m b H v (100+4*0) K st' v'→bG Cx (.code (.loop fU)::.blk 0::[]) ⟨[(0,.ptr b 0),(1,U16 acts),(8,.agg [.v (.func (.func 234) #[] #[]),.v (.func (.func 235) #[] #[]),.v (.func (.func 236) #[] #[]),.v (.func (.func 237) #[] #[]),.v (.func (.func 238) #[] #[]),.v (.func (.func 239) #[] #[]),.v (.func (.func 240) #[] #[]),.v (.func (.func 241) #[] #[]),.v (.func (.func 242) #[] #[]),.v (.func (.func 243) #[] #[]),.v (.func (.func 244) #[] #[]),.v (.func (.func 245) #[] #[]),.v (.func (.func 246) #[] #[]),.v (.func (.func 247) #[] #[]),.v (.func (.func 248) #[] #[])]),(9,I64 0)],K⟩ (lB Cx [] fun y' K=>y'=.tup []∧∃ st' v',HAt c h o s y id m b K st' v'∧st'.Ok∧st'.out.length≤200∧Kp H K b v v'):=by
  intro K st' v' F
  rw[aA]
  simp(disch:=omega)only[go_sem,simprocAttr]
  refine bD (fun _=>?_) (fun _=>?_)
  ·simp(disch:=omega)only[go_sem,simprocAttr]
   refine aM (a9y hk mo hid _ _ _ F.at_ F.ok (Nat.le_trans F.out (by decide))) ?_
   rintro y' K' ⟨rfl,s2,v2,a2,k2,l2,p2⟩
   simp(disch:=omega)only[go_sem,simprocAttr]
   rw[aB (l:=[0,1,8,9]) rfl]
   simp(disch:=omega)only[go_sem,simprocAttr]
   exact h1 _ _ _ ⟨a2,k2,Nat.le_trans l2 (Nat.add_le_add_right F.out 4),F.kp.trans p2⟩
  ·simp(disch:=omega)only[go_sem,simprocAttr]
   rw[aB (l:=[0,1,8,9]) rfl]
   simp(disch:=omega)only[go_sem,simprocAttr]
   exact h1 _ _ _ ⟨F.at_,F.ok,Nat.le_trans F.out (by decide),F.kp⟩
 simp(disch:=omega)only[go_sem,simprocAttr]
 rw[aB (l:=[0,1,8,9]) rfl]
 simp(disch:=omega)only[go_sem,simprocAttr]
 exact h0 _ _ _ ⟨a.app _,k,hl,Kp.app _⟩
end
end Go.Proofs.YtpdphobnchajbaaGreatDoor.Ev
