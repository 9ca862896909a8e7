/- book.Make: the three tables. -/
import Derived.Test.YtfkegfjggibdhaaGreatDoorN37
import Derived.Test.YtfkegfjggibdhaaGreatDoorN39
import Derived.Test.YtfkegfjggibdhaaGreatDoorN41
import Derived.Test.YtfkegfjggibdhaaGreatDoorN42
import Derived.Test.YtfkegfjggibdhaaGreatDoorN43
import Derived.Test.YtfkegfjggibdhaaGreatDoorN44
set_option linter.all false
namespace Go.Proofs.YtfkegfjggibdhaaGreatDoor.Ev
open Go Go.RowKit
set_option maxRecDepth 1000000
theorem aJD{b:Nat}(h:b=1\/b=2\/b=3):EvQ Cx 53 [I8 b] (Sv (nmP b)):=by rcases h with rfl|rfl|rfl<;>exact BU (by kernel_rfl)
theorem aRX{b:Nat}(h:b=1\/b=2\/b=3):EvQ Cx 55 [I8 b] (Sv (VX b)):=by rcases h with rfl|rfl|rfl;{exact aT 1000 (by kernel_rfl)};{exact aT 1000 (by kernel_rfl)};{exact aT 1000 (by kernel_rfl)}
theorem aFz{b:Nat}(h:b=1\/b=2\/b=3)(i:Nat)(hi:i<188):EvQ Cx 58 [I8 b,gP i] (Bo (wtB b i)):=by(have ha:(Q7 b).all (chk Cx 58)=true:=by rcases h with rfl|rfl|rfl;{exact aYg};{exact aTz};{exact aW1});exact oX ha ([I8 b,gP i],Bo (wtB b i)) (kc.2 ⟨i,dq.2 hi,rfl⟩)
theorem aMS{b:Nat}(h:b=1\/b=2\/b=3):(oC b).length=565/\bW ((oC b).map .v)=true/\(∀i∈iZ b,i<188)/\(iZ b).length<=4611686018427387904/\((nmP b).toList==({data:=#[]}:ByteArray).toList)=false/\(pZ (wtB b) (iZ b) (oC b)).map .v=cT9 (bH b):=by(have ha:IT b=true:=by rcases h with rfl|rfl|rfl;{exact aTG};{exact aTO};{exact aTH});unfold IT at ha;simp only[aq]at ha;obtain⟨h1,h2,h3,⟨h4,h5⟩,h6⟩:=ha;exact⟨ax h1,h2,fun i hi=>dy (bg.1 h3 i hi),by have:=dy h4;omega,by simpa using h5,lT _ _ h6⟩
noncomputable def XMk(X1 X2:FuncId->List A->Option A):FuncId->List A->Option A:=XE (CT X1) [54] (XE (CA X2) [103] (XE Cx [53,55,58,104] fun _ _=>none))
theorem OY{X1 X2:FuncId->List A->Option A}(h1:QOk Cx.T Tryz.prog X1)(h2:QOk Cx.T Tryz.prog X2):QOk Cx.T Tryz.prog (XMk X1 X2):=rD (aX5 h1) rfl (rD (sD h2) rfl (rD rZ rfl oJ))
theorem NT{b:Nat}(h:b=1\/b=2\/b=3){X1 X2:FuncId->List A->Option A}(hp:EvQ (CT X1) 54 [Sv (VX b)] (.tup [.agg ((oC b).map .v),I64 0,I64 0]))(hh:EvQ (CA X2) 103 [.agg ((oC b).map .v)] (.sl (iZ b).length (kN (iZ b)))):EvQ (CA (XMk X1 X2)) 28 [I8 b] (.tup [.agg (cT9 (bH b)),I64 0]):=by obtain⟨k1,k2,k3,k4,k5,k6⟩:=aMS h;have cx:∀{f:FuncId} {l:List A} {r:A},f∈[53,55,58,104]->f∉[54]->f∉[103]->EvQ Cx f l r->EvQ (CA (XMk X1 X2)) f l r:=fun{f l r} hf h1 h2 h=>jI (by show XMk X1 X2 f l=some r;unfold XMk;rw[gN h1,gN h2];exact mL hf h);(have no:∀f,f∉[54]->f∉[103]->f∉[53,55,58,104]->XMk X1 X2 f=fun _=>none:=fun f h1 h2 h3=>by funext l;unfold XMk;rw[gN h1,gN h2,gN h3]);rw[<-k6];exact aG1 (no _ (by decide) (by decide) (by decide)) (no _ (by decide) (by decide) (by decide)) (fun i hi=>cx (by decide) (by decide) (by decide) (aFz h i hi)) (fun vs i c1 c2 c3 a1 a2 a3=>cx (by decide) (by decide) (by decide) (aO0 a1 a2 a3 c1 c2 c3)) k5 (cx (by decide) (by decide) (by decide) (aJD h)) (cx (by decide) (by decide) (by decide) (aRX h)) k1 k2 (jI (mL (by simp) hp)) k3 k4 (jI (by show XMk X1 X2 103 [.agg ((oC b).map .v)]=some (.sl (iZ b).length (kN (iZ b)));unfold XMk;rw[gN (by simp)];exact mL (by simp) hh))
noncomputable def XMa:FuncId->List A->Option A:=fun f l=>bif eqL l [I8 (1:Nat)]then XE (CA (XMk XP1 XR1)) [28] (fun _ _=>none) f l else bif eqL l [I8 (2:Nat)]then XE (CA (XMk XP2 XR2)) [28] (fun _ _=>none) f l else XE (CA (XMk XP3 XR3)) [28] (fun _ _=>none) f l
theorem aIY:QOk Cx.T Tryz.prog XMa:=by intro f l r h;unfold XMa at h;cases h1:eqL l [I8 (1:Nat)]with|true=>rw[h1,bq]at h;exact rD (sD (OY aL7 aOj)) rfl oJ f l r h|false=>cases h2:eqL l [I8 (2:Nat)]with|true=>rw[h1,cg,h2,bq]at h;exact rD (sD (OY aKW aPu)) rfl oJ f l r h|false=>rw[h1,cg,h2,cg]at h;exact rD (sD (OY aMg aSB)) rfl oJ f l r h
noncomputable def CMk:Ctx:=CA XMa
theorem aO2:jF Tryz.prog CMk:=sD aIY
theorem W6(p:Nat)(h:p=1\/p=2\/p=3):EvQ CMk 28 [I8 p] (.tup [.agg (cT9 (bH p)),I64 0]):=by refine jI ?_;have e:∀l,CMk.X 28 l=XMa 28 l:=fun _=>rfl;rw[e];rcases h with rfl|rfl|rfl;{have h1:eqL [I8 ((1:Nat):Int)] [I8 (1:Nat)]=true:=rfl;unfold XMa;rw[h1,bq];exact mL (bl.2 rfl) (NT (.inl rfl) aPt aLy)};{have h1:eqL [I8 ((2:Nat):Int)] [I8 (1:Nat)]=false:=rfl;have h2:eqL [I8 ((2:Nat):Int)] [I8 (2:Nat)]=true:=rfl;unfold XMa;rw[h1,cg,h2,bq];exact mL (bl.2 rfl) (NT (.inr (.inl rfl)) aKC aQg)};{have h1:eqL [I8 ((3:Nat):Int)] [I8 (1:Nat)]=false:=rfl;have h2:eqL [I8 ((3:Nat):Int)] [I8 (2:Nat)]=false:=rfl;unfold XMa;rw[h1,cg,h2,cg];exact mL (bl.2 rfl) (NT (.inr (.inr rfl)) aJ4 aOo)}
