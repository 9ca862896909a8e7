/- book.Make: the three tables. -/
import Derived.Test.YtfkegfjggibdhaaGreatDoorV37
import Derived.Test.YtfkegfjggibdhaaGreatDoorV39
import Derived.Test.YtfkegfjggibdhaaGreatDoorV41
import Derived.Test.YtfkegfjggibdhaaGreatDoorV42
import Derived.Test.YtfkegfjggibdhaaGreatDoorV43
import Derived.Test.YtfkegfjggibdhaaGreatDoorV44
set_option linter.all false
namespace Go.Proofs.YtfkegfjggibdhaaGreatDoor.Ev
open Go Go.RowKit
set_option maxRecDepth 1000000
theorem aMV{b:Nat}(h:b=1\/b=2\/b=3):EvQ Cx 53 [I8 b] (Sv (nmP b)):=by rcases h with rfl|rfl|rfl<;>exact CG (by kernel_rfl)
theorem aJr{b:Nat}(h:b=1\/b=2\/b=3):EvQ Cx 55 [I8 b] (Sv (U2 b)):=by rcases h with rfl|rfl|rfl;{exact aU 1000 (by kernel_rfl)};{exact aU 1000 (by kernel_rfl)};{exact aU 1000 (by kernel_rfl)}
theorem aFq{b:Nat}(h:b=1\/b=2\/b=3)(i:Nat)(hi:i<188):EvQ Cx 58 [I8 b,gU i] (Bo (wtB b i)):=by(have ha:(Q9 b).all (chk Cx 58)=true:=by rcases h with rfl|rfl|rfl;{exact aUU};{exact aT6};{exact aXR});exact pY ha ([I8 b,gU i],Bo (wtB b i)) (kh.2 ⟨i,dj.2 hi,rfl⟩)
theorem aN4{b:Nat}(h:b=1\/b=2\/b=3):(oK b).length=565/\cG ((oK b).map .v)=true/\(∀i∈jA b,i<188)/\(jA b).length<=4611686018427387904/\((nmP b).toList==({data:=#[]}:ByteArray).toList)=false/\(qG (wtB b) (jA b) (oK b)).map .v=cT9 (bJ b):=by(have ha:HS b=true:=by rcases h with rfl|rfl|rfl;{exact aS9};{exact aXD};{exact aVD});unfold HS at ha;simp only[aq]at ha;obtain⟨h1,h2,h3,⟨h4,h5⟩,h6⟩:=ha;exact⟨ax h1,h2,fun i hi=>ee (bg.1 h3 i hi),by have:=ee h4;omega,by simpa using h5,mD _ _ h6⟩
noncomputable def XMk(X1 X2:FuncId->List A->Option A):FuncId->List A->Option A:=XE (CT X1) [54] (XE (CA X2) [103] (XE Cx [53,55,58,104] fun _ _=>none))
theorem MJ{X1 X2:FuncId->List A->Option A}(h1:QOk Cx.T Tryz.prog X1)(h2:QOk Cx.T Tryz.prog X2):QOk Cx.T Tryz.prog (XMk X1 X2):=qW (aV4 h1) rfl (qW (sS h2) rfl (qW sJ rfl pC))
theorem NB{b:Nat}(h:b=1\/b=2\/b=3){X1 X2:FuncId->List A->Option A}(hp:EvQ (CT X1) 54 [Sv (U2 b)] (.tup [.agg ((oK b).map .v),I64 0,I64 0]))(hh:EvQ (CA X2) 103 [.agg ((oK b).map .v)] (.sl (jA b).length (kW (jA b)))):EvQ (CA (XMk X1 X2)) 28 [I8 b] (.tup [.agg (cT9 (bJ b)),I64 0]):=by obtain⟨k1,k2,k3,k4,k5,k6⟩:=aN4 h;have cx:∀{f:FuncId} {l:List A} {r:A},f∈[53,55,58,104]->f∉[54]->f∉[103]->EvQ Cx f l r->EvQ (CA (XMk X1 X2)) f l r:=fun{f l r} hf h1 h2 h=>jN (by show XMk X1 X2 f l=some r;unfold XMk;rw[gS h1,gS h2];exact nA hf h);(have no:∀f,f∉[54]->f∉[103]->f∉[53,55,58,104]->XMk X1 X2 f=fun _=>none:=fun f h1 h2 h3=>by funext l;unfold XMk;rw[gS h1,gS h2,gS h3]);rw[<-k6];exact aGl (no _ (by decide) (by decide) (by decide)) (no _ (by decide) (by decide) (by decide)) (fun i hi=>cx (by decide) (by decide) (by decide) (aFq h i hi)) (fun vs i c1 c2 c3 a1 a2 a3=>cx (by decide) (by decide) (by decide) (aMT a1 a2 a3 c1 c2 c3)) k5 (cx (by decide) (by decide) (by decide) (aMV h)) (cx (by decide) (by decide) (by decide) (aJr h)) k1 k2 (jN (nA (by simp) hp)) k3 k4 (jN (by show XMk X1 X2 103 [.agg ((oK b).map .v)]=some (.sl (jA b).length (kW (jA b)));unfold XMk;rw[gS (by simp)];exact nA (by simp) hh))
noncomputable def XMa:FuncId->List A->Option A:=fun f l=>bif eqL l [I8 (1:Nat)]then XE (CA (XMk XP1 XR1)) [28] (fun _ _=>none) f l else bif eqL l [I8 (2:Nat)]then XE (CA (XMk XP2 XR2)) [28] (fun _ _=>none) f l else XE (CA (XMk XP3 XR3)) [28] (fun _ _=>none) f l
theorem aPY:QOk Cx.T Tryz.prog XMa:=by intro f l r h;unfold XMa at h;cases h1:eqL l [I8 (1:Nat)]with|true=>rw[h1,cc]at h;exact qW (sS (MJ aMP aSl)) rfl pC f l r h|false=>cases h2:eqL l [I8 (2:Nat)]with|true=>rw[h1,cf,h2,cc]at h;exact qW (sS (MJ aND aM8)) rfl pC f l r h|false=>rw[h1,cf,h2,cf]at h;exact qW (sS (MJ aL8 aMR)) rfl pC f l r h
noncomputable def CMk:Ctx:=CA XMa
theorem aPI:jI Tryz.prog CMk:=sS aPY
theorem aCk(p:Nat)(h:p=1\/p=2\/p=3):EvQ CMk 28 [I8 p] (.tup [.agg (cT9 (bJ p)),I64 0]):=by refine jN ?_;have e:∀l,CMk.X 28 l=XMa 28 l:=fun _=>rfl;rw[e];rcases h with rfl|rfl|rfl;{have h1:eqL [I8 ((1:Nat):Int)] [I8 (1:Nat)]=true:=rfl;unfold XMa;rw[h1,cc];exact nA (bl.2 rfl) (NB (.inl rfl) aPi aQp)};{have h1:eqL [I8 ((2:Nat):Int)] [I8 (1:Nat)]=false:=rfl;have h2:eqL [I8 ((2:Nat):Int)] [I8 (2:Nat)]=true:=rfl;unfold XMa;rw[h1,cf,h2,cc];exact nA (bl.2 rfl) (NB (.inr (.inl rfl)) aL6 aSh)};{have h1:eqL [I8 ((3:Nat):Int)] [I8 (1:Nat)]=false:=rfl;have h2:eqL [I8 ((3:Nat):Int)] [I8 (2:Nat)]=false:=rfl;unfold XMa;rw[h1,cf,h2,cf];exact nA (bl.2 rfl) (NB (.inr (.inr rfl)) aKL aRi)}
