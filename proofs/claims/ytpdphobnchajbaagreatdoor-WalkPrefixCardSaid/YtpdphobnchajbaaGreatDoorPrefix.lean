/-
  The law WalkPrefix, as its tied card states it: every prefix of a played walk is played by the prefix of the picks; each step is one that Steps gives in the state before it; only the last can fail. Conditions: the row's own.
-/
import Derived.Test.YtpdphobnchajbaaGreatDoorCards
import Derived.Test.YtpdphobnchajbaaGreatDoorTie
import Derived.Lay
import Derived.Test.YtpdphobnchajbaaGreatDoorQ04
import Derived.Test.YtpdphobnchajbaaGreatDoorQ48
set_option linter.unusedSimpArgs false
set_option linter.unusedVariables false
namespace Go.Proofs.YtpdphobnchajbaaGreatDoor.walkPrefix
open Go Go.ChangeShapes Go.WideShapes Go.ChangeAt Go.RowKit Go.Proofs.YtpdphobnchajbaaGreatDoor
theorem own:ownKnob Tryz.prog.godebug=none:=by kernel_rfl
theorem aNg:laidOutB Tryz.prog=true:=by kernel_rfl
theorem ZI:(Tryz.f4.params.toList).all (fun t=>Tryz.prog.readableRec t&&decide (t<Tryz.prog.types.size))=true:=by kernel_rfl
set_option maxRecDepth 100000 in
theorem contract(H:Type)(enc:TypeId×Value→H)(W:World)(base:Nat)(args:Array Value)(ds gs:List (DataW H))(before:List MemPlace)
  (hval:∀(j:Nat) t v,Tryz.f4.params[j]?=some t→args[j]?=some v→Value.okWide Tryz.prog W .any base t v)
  (hW:DataW.Whole enc Tryz.prog Tryz.f4.params.toList Rows.walkPrefixSpec.vars false W args.toList ds gs before) (hsz:(DataW.weightsEach Tryz.prog (Tryz.f4.params.toList++(OpenSpec.ofChange Rows.walkPrefixSpec).bare.plain.varTypes Tryz.prog) (ds++gs)).all (·≤reachBytes)=true) (hL:laidMetH Tryz.prog Rows.walkPrefixRow.laid W) :
  Calls Tryz.prog 4 args W fun e W'=>∃ v,e=.returned v∧Rows.walkPrefixSpec.post enc Tryz.prog Tryz.f4 false true false false W args v W':=by
 have hW':=hW
 obtain⟨p,q,hA0,hV,rfl,hfz,hnd⟩:=hW
 have hA:DataW.TrodAll enc Tryz.prog W 0 (fun _=>true) true Tryz.f4.params.toList args.toList ds p:=hA0
 rw[Tryz.params4]at hA hval hsz
 obtain⟨v0,vs0,d0,ds0,p0,q0,hargs,rfl,rfl,h0,t0⟩:=trodAll_cons hA
 obtain⟨v1,vs1,d1,ds1,p1,q1,rfl,rfl,rfl,h1,t1⟩:=trodAll_cons t0
 obtain⟨rfl,rfl,rfl⟩:=trodAll_nil t1
 obtain rfl:args=#[v0,v1]:=by cases args;simp_all
 clear hA0
 have hGl:Ev.Gl Ev.CWP.T.gl (fun _=>False) W:=P8 (by kernel_rfl) hL (by kernel_rfl) (fun g hg=>by cases hg)
 obtain⟨_,⟨w,wo,rfl⟩,r0⟩:=N4 (okWide_struct Tryz.underlying44 (hval 0 44 v0 rfl rfl)) h0 (fun k hk=>by simpa using List.all_eq_true.1 hsz k (DataW.weights_mem_each (j:=0) (t:=44) rfl rfl k hk))
 obtain⟨a1,f1,r1⟩:=Z2 8 (show pM Tryz.prog 8 75=some [.sl [.sc (.int .i64)]]by kernel_rfl) (aTY (hval 1 75 v1 rfl rfl) (by kernel_rfl)) h1 (fun k hk=>by simpa using List.all_eq_true.1 hsz k (DataW.weights_mem_each (j:=1) (t:=75) rfl rfl k hk))
 obtain⟨P,hr,hl,rfl⟩:=aKH f1
 refine((Ev.WalkPrefix_ev wo hl hr).calls Ev.CWP_ok Ev.CWP_B W _ hGl (Ev.RL.cons r0 (Ev.RL.cons r1 Ev.RL.nil))).mono ?_
 rintro e W' ⟨v,rfl,hb,hv⟩
 rw[Ev.R]at hv
 subst hv
 exact⟨_,rfl,aEv aNg ZI rfl rfl Tryz.underlying4 ⟨rfl,rfl,rfl⟩ hW' hb⟩
abbrev zu:Value:=.int .u8 0
abbrev zw:Value:=.int .u16 0
abbrev zi:Value:=.int .i64 0
abbrev zq:Value:=.int .u64 0
abbrev zf:Value:=.bool false
abbrev zn:Value:=.slice none 0 0
abbrev zs:Value:=.string ⟨#[]⟩
def wit:Array Value:=#[.agg #[zs,zn,zn,zn,zu,zu,zu,zu,zu,zn,zi,zi,zi,zi,zi,zu,zu,zu,zi,zf,zs,zu,zu,zw,zu,zu,zw,zu,zu,zw,zu,zu,zw,zu,zu,zw,zu,zu,zw,zu,zu,zw,zu,zu,zw,zu,zu,zw,zu,zu,zw,zu,zu,zw,zu,zu,zw,zu,zu,zw,zu,zu,zw,zu,zu,zw,zu,zu,zw,zu,zu,zw,zu,zu,zw,zu,zu,zw,zu,zu,zw,zu,zu,zw,zu,zu,zw,zu,zu,zw,zu,zu,zw,zu,zu,zw,zu,zu,zw,zu,zu,zw,zu,zu,zw,zu,zu,zw,zu,zu,zw,zu,zu,zw,zu,zu,zw,zu,zu,zw,zu,zu,zw,zu,zu,zw,zu,zu,zw,zu,zu,zw,zu,zu,zw,zu,zu,zw,zu,zu,zw,zu,zu,zw,zu,zu,zw,zu,zu,zw,zu,zu,zw,zu,zu,zw,zu,zu,zw,zu,zu,zw,zu,zu,zw,zu,zu,zw,zu,zu,zw,zu,zu,zw,zu,zu,zw,zu,zu,zw,zu,zu,zw,zu,zu,zw,zu,zu,zw,zu,zu,zw,zu,zu,zw,zu,zu,zw,zu,zu,zw,zu,zu,zw,zu,zu,zw,zu,zu,zw,zu,zu,zw,zu,zu,zw,zu,zu,zw,zu,zu,zw,zu,zu,zw,zu,zu,zw,zu,zu,zw,zu,zu,zw,zu,zu,zw,zu,zu,zw,zu,zu,zw,zu,zu,zw,zu,zu,zw,zu,zu,zw,zu,zu,zw,zu,zu,zw,zu,zu,zw,zu,zu,zw,zu,zu,zw,zu,zu,zw,zu,zu,zw,zu,zu,zw,zu,zu,zw,zu,zu,zw,zu,zu,zw,zu,zu,zw,zu,zu,zw,zu,zu,zw,zu,zu,zw,zu,zu,zw,zu,zu,zw,zu,zu,zw,zu,zu,zw,zu,zu,zw,zu,zu,zw,zu,zu,zw,zu,zu,zw,zu,zu,zw,zu,zu,zw,zu,zu,zw,zu,zu,zw,zu,zu,zw,zu,zu,zw,zu,zu,zw,zu,zu,zw,zu,zu,zw,zu,zu,zw,zu,zu,zw,zu,zu,zw,zu,zu,zw,zu,zu,zw,zu,zu,zw,zu,zu,zw,zu,zu,zw,zu,zu,zw,zu,zu,zw,zu,zu,zw,zu,zu,zw,zu,zu,zw,zu,zu,zw,zu,zu,zw,zu,zu,zw,zu,zu,zw,zu,zu,zw,zu,zu,zw,zu,zu,zw,zu,zu,zw,zu,zu,zw,zu,zu,zw,zu,zu,zw,zu,zu,zw,zu,zu,zw,zu,zu,zw,zu,zu,zw,zu,zu,zw,zu,zu,zw,zu,zu,zw,zu,zu,zw,zu,zu,zw,zu,zu,zw,zu,zu,zw,zu,zu,zw,zu,zu,zw,zu,zu,zw,zu,zu,zw,zu,zu,zw,zu,zu,zw,zu,zu,zw,zu,zu,zw,zu,zu,zw,zu,zu,zw,zu,zu,zw,zu,zu,zw,zu,zu,zw,zu,zu,zw,zu,zu,zw,zu,zu,zw,zu,zu,zw,zu,zu,zw,zu,zu,zw,zu,zu,zw,zu,zu,zw,zu,zu,zw,zu,zu,zw,zu,zu,zw,zu,zu,zw,zu,zu,zw,zu,zu,zw,zu,zu,zw,zu,zu,zw,zu,zu,zw,zu,zu,zw,zu,zu,zw,zu,zu,zw,zu,zu,zw,zu,zu,zw,zu,zu,zw,zu,zu,zw,zu,zu,zw,zu,zu,zw,zu,zu,zw,zu,zu,zw,zu,zu,zw,zu,zu,zw,zu,zu,zw],zn]
section
variable{H:Type}
abbrev yu:DataW H:=.lit (.int .u8 0)
abbrev yw:DataW H:=.lit (.int .u16 0)
abbrev yi:DataW H:=.lit (.int .i64 0)
abbrev yq:DataW H:=.lit (.int .u64 0)
abbrev yf:DataW H:=.lit (.bool false)
abbrev yn:DataW H:=.nil
abbrev ys:DataW H:=.lit (.string [])
def dat:List (DataW H):=[.agg [.agg [ys,yn,yn,yn,yu,.agg [yu,yu,yu,yu,yn]],.agg [yi,yi,yi,yi,yi],.agg [yu,yu,yu,yi,yf],.agg [ys,.agg [.agg [.agg [yu,yu,yw],.agg [yu,yu,yw],.agg [yu,yu,yw],.agg [yu,yu,yw],.agg [yu,yu,yw],.agg [yu,yu,yw],.agg [yu,yu,yw],.agg [yu,yu,yw],.agg [yu,yu,yw],.agg [yu,yu,yw],.agg [yu,yu,yw],.agg [yu,yu,yw],.agg [yu,yu,yw],.agg [yu,yu,yw]],.agg [.agg [yu,yu,yw],.agg [yu,yu,yw],.agg [yu,yu,yw],.agg [yu,yu,yw],.agg [yu,yu,yw],.agg [yu,yu,yw],.agg [yu,yu,yw],.agg [yu,yu,yw],.agg [yu,yu,yw],.agg [yu,yu,yw],.agg [yu,yu,yw],.agg [yu,yu,yw],.agg [yu,yu,yw],.agg [yu,yu,yw]],.agg [.agg [yu,yu,yw],.agg [yu,yu,yw],.agg [yu,yu,yw],.agg [yu,yu,yw],.agg [yu,yu,yw],.agg [yu,yu,yw],.agg [yu,yu,yw],.agg [yu,yu,yw],.agg [yu,yu,yw],.agg [yu,yu,yw],.agg [yu,yu,yw],.agg [yu,yu,yw],.agg [yu,yu,yw],.agg [yu,yu,yw]],.agg [.agg [yu,yu,yw],.agg [yu,yu,yw],.agg [yu,yu,yw],.agg [yu,yu,yw],.agg [yu,yu,yw],.agg [yu,yu,yw],.agg [yu,yu,yw],.agg [yu,yu,yw],.agg [yu,yu,yw],.agg [yu,yu,yw],.agg [yu,yu,yw],.agg [yu,yu,yw],.agg [yu,yu,yw],.agg [yu,yu,yw]],.agg [.agg [yu,yu,yw],.agg [yu,yu,yw],.agg [yu,yu,yw],.agg [yu,yu,yw],.agg [yu,yu,yw],.agg [yu,yu,yw],.agg [yu,yu,yw],.agg [yu,yu,yw],.agg [yu,yu,yw],.agg [yu,yu,yw],.agg [yu,yu,yw],.agg [yu,yu,yw],.agg [yu,yu,yw],.agg [yu,yu,yw]],.agg [.agg [yu,yu,yw],.agg [yu,yu,yw],.agg [yu,yu,yw],.agg [yu,yu,yw],.agg [yu,yu,yw],.agg [yu,yu,yw],.agg [yu,yu,yw],.agg [yu,yu,yw],.agg [yu,yu,yw],.agg [yu,yu,yw],.agg [yu,yu,yw],.agg [yu,yu,yw],.agg [yu,yu,yw],.agg [yu,yu,yw]],.agg [.agg [yu,yu,yw],.agg [yu,yu,yw],.agg [yu,yu,yw],.agg [yu,yu,yw],.agg [yu,yu,yw],.agg [yu,yu,yw],.agg [yu,yu,yw],.agg [yu,yu,yw],.agg [yu,yu,yw],.agg [yu,yu,yw],.agg [yu,yu,yw],.agg [yu,yu,yw],.agg [yu,yu,yw],.agg [yu,yu,yw]],.agg [.agg [yu,yu,yw],.agg [yu,yu,yw],.agg [yu,yu,yw],.agg [yu,yu,yw],.agg [yu,yu,yw],.agg [yu,yu,yw],.agg [yu,yu,yw],.agg [yu,yu,yw],.agg [yu,yu,yw],.agg [yu,yu,yw],.agg [yu,yu,yw],.agg [yu,yu,yw],.agg [yu,yu,yw],.agg [yu,yu,yw]],.agg [.agg [yu,yu,yw],.agg [yu,yu,yw],.agg [yu,yu,yw],.agg [yu,yu,yw],.agg [yu,yu,yw],.agg [yu,yu,yw],.agg [yu,yu,yw],.agg [yu,yu,yw],.agg [yu,yu,yw],.agg [yu,yu,yw],.agg [yu,yu,yw],.agg [yu,yu,yw],.agg [yu,yu,yw],.agg [yu,yu,yw]],.agg [.agg [yu,yu,yw],.agg [yu,yu,yw],.agg [yu,yu,yw],.agg [yu,yu,yw],.agg [yu,yu,yw],.agg [yu,yu,yw],.agg [yu,yu,yw],.agg [yu,yu,yw],.agg [yu,yu,yw],.agg [yu,yu,yw],.agg [yu,yu,yw],.agg [yu,yu,yw],.agg [yu,yu,yw],.agg [yu,yu,yw]],.agg [.agg [yu,yu,yw],.agg [yu,yu,yw],.agg [yu,yu,yw],.agg [yu,yu,yw],.agg [yu,yu,yw],.agg [yu,yu,yw],.agg [yu,yu,yw],.agg [yu,yu,yw],.agg [yu,yu,yw],.agg [yu,yu,yw],.agg [yu,yu,yw],.agg [yu,yu,yw],.agg [yu,yu,yw],.agg [yu,yu,yw]],.agg [.agg [yu,yu,yw],.agg [yu,yu,yw],.agg [yu,yu,yw],.agg [yu,yu,yw],.agg [yu,yu,yw],.agg [yu,yu,yw],.agg [yu,yu,yw],.agg [yu,yu,yw],.agg [yu,yu,yw],.agg [yu,yu,yw],.agg [yu,yu,yw],.agg [yu,yu,yw],.agg [yu,yu,yw],.agg [yu,yu,yw]]],.agg [.agg [.agg [yu,yu,yw],.agg [yu,yu,yw],.agg [yu,yu,yw],.agg [yu,yu,yw],.agg [yu,yu,yw]],.agg [.agg [yu,yu,yw],.agg [yu,yu,yw],.agg [yu,yu,yw],.agg [yu,yu,yw],.agg [yu,yu,yw]],.agg [.agg [yu,yu,yw],.agg [yu,yu,yw],.agg [yu,yu,yw],.agg [yu,yu,yw],.agg [yu,yu,yw]],.agg [.agg [yu,yu,yw],.agg [yu,yu,yw],.agg [yu,yu,yw],.agg [yu,yu,yw],.agg [yu,yu,yw]]]]],yn]
end
noncomputable def u6(os:Os):World :=
 World.laidAll Tryz.prog os Rows.walkPrefixRow.laid
set_option maxRecDepth 100000 in
theorem aBP(os:Os):laidMet Tryz.prog Rows.walkPrefixRow.laid ((u6 os).forCall (fun _ _=>0) ⟨#[],wit,[]⟩).memory :=
 laidMet_of_run' 8 (by kernel_rfl) (by kernel_rfl)
set_option maxRecDepth 100000 in
theorem a7C(os:Os){H:Type}(enc:TypeId×Value→H):∃ places,DataW.whole enc Tryz.prog ((u6 os).forCall (fun _ _=>0) ⟨#[],wit,[]⟩).memory Tryz.f4.params.toList Rows.walkPrefixSpec.vars false wit.toList 8=some (dat,[],places) :=
 ⟨[],by kernel_rfl⟩
set_option maxRecDepth 100000 in
theorem lifted(os:Os)(started:os.Started)(H:Type)(enc:TypeId×Value→H)(F:Stop.Interp) :
  ReturnsInHanded {} Tryz.checked os 4 .any ((OpenSpec.ofChange Rows.walkPrefixSpec).preRow enc Tryz.prog Tryz.f4 Rows.walkPrefixRow.domain false Rows.walkPrefixRow.laid) (((OpenSpec.ofChange Rows.walkPrefixSpec).at F).post enc Tryz.prog Tryz.f4 false true false false):=by
 obtain⟨places,hx⟩:=a7C os enc
 refine returnsInHanded_of_row (C:=Tryz.checked) (s:=OpenSpec.ofChange Rows.walkPrefixSpec) own started (by kernel_rfl) Tryz.func4
  (witness_row_at (enc:=enc) (C:=Tryz.checked) false (u6 os) wit (World.laidAll_os _ _ _) (by kernel_rfl) (by kernel_rfl) (by kernel_rfl)
   (OpenSpec.preRow_of_cond 8 hx (by kernel_rfl) (fun k hk=>by cases hk) (by kernel_rfl) (aBP os))) ?_
 intro W base args ds gs before hval hW _ _ hsz hL _ _
 exact contract H enc W base args ds gs before hval hW hsz hL
theorem jD{a b:Bool}(h:a=true)(h2:b=true):(a&&b)=true:=by rw[h,h2];rfl
theorem j1:(Rows.walkPrefixRow.wf (OpenSpec.ofChange (OpenSpec.ofChange Rows.walkPrefixSpec).bare))=true:=by kernel_rfl
theorem j2:(laidOutB Tryz.pinned.checked.prog)=true:=by kernel_rfl
theorem j3:(mapsRowed Tryz.pinned.checked.prog)=true:=by kernel_rfl
theorem j4:(Tryz.f4.params.all (Tryz.pinned.checked.prog.readableRec ·))=true:=by kernel_rfl
theorem j5:(namedTie Tryz.pinned.checked.prog Rows.walkPrefixRow.named (OpenSpec.ofChange Rows.walkPrefixSpec).bare.vars)=true:=by kernel_rfl
theorem j6:(Rows.walkPrefixRow.stops==[])=true:=by kernel_rfl
theorem j7:(Tryz.pinned.checked.prog.stops==[])=true:=by kernel_rfl
theorem j8:(Rows.walkPrefixRow.knobs==[])=true:=by kernel_rfl
theorem j9:(Tryz.pinned.checked.prog.stopKnobs==[])=true:=by kernel_rfl
theorem j10:(Rows.walkPrefixRow.inPlace==Tryz.pinned.checked.prog.inPlace 4)=true:=by kernel_rfl
theorem j11:(Rows.walkPrefixRow.unfollowed==Tryz.pinned.checked.prog.unfollowed 4)=true:=by kernel_rfl
theorem j12:(Rows.walkPrefixRow.recurses==Tryz.pinned.checked.prog.recurses 4)=true:=by kernel_rfl
theorem j13:(Rows.walkPrefixRow.named==Tryz.pinned.checked.prog.varsNamed 4)=true:=by kernel_rfl
theorem j14:(Rows.walkPrefixRow.maps==(Tryz.f4.params.toList++(OpenSpec.ofChange Rows.walkPrefixSpec).bare.plain.varTypes Tryz.pinned.checked.prog).any (Tryz.pinned.checked.prog.mapsRec ·))=true:=by kernel_rfl
theorem j15:(Rows.walkPrefixRow.ifaces==(Tryz.f4.params.toList++(OpenSpec.ofChange Rows.walkPrefixSpec).bare.plain.varTypes Tryz.pinned.checked.prog).any (Tryz.pinned.checked.prog.ifacesRec ·))=true:=by kernel_rfl
theorem j16:(Rows.walkPrefixRow.mapsOut==Tryz.pinned.checked.prog.mapsAmong Tryz.f4.resultTypes.toList)=true:=by kernel_rfl
theorem j17:(Rows.walkPrefixRow.loops==(Tryz.f4.params.toList++(OpenSpec.ofChange Rows.walkPrefixSpec).bare.plain.varTypes Tryz.pinned.checked.prog).any (Tryz.pinned.checked.prog.loopsFrom ·))=true:=by kernel_rfl
theorem j18:(Rows.walkPrefixRow.wideKeys==(Tryz.f4.params.toList++(OpenSpec.ofChange Rows.walkPrefixSpec).bare.plain.varTypes Tryz.pinned.checked.prog++Tryz.f4.resultTypes.toList).any (Tryz.pinned.checked.prog.wideKeysFrom ·))=true:=by kernel_rfl
theorem j19:((OpenSpec.ofChange Rows.walkPrefixSpec).bare.vars.all (Tryz.pinned.checked.prog.varReadable ·))=true:=by kernel_rfl
theorem j20:(Tryz.f4.resultTypes.all (fun t=>Tryz.pinned.checked.prog.readableRec t&&decide (t<Tryz.pinned.checked.prog.types.size)))=true:=by kernel_rfl
theorem j21:(Rows.walkPrefixRow.ifacesOut==Tryz.f4.resultTypes.toList.any (Tryz.pinned.checked.prog.ifacesRec ·))=true:=by kernel_rfl
theorem j22:(Rows.walkPrefixRow.loopsOut==Tryz.f4.resultTypes.toList.any (Tryz.pinned.checked.prog.loopsFrom ·))=true:=by kernel_rfl
theorem j23:(Rows.walkPrefixRow.plainKeys==Tryz.pinned.checked.prog.plainKeys)=true:=by kernel_rfl
theorem j24:(Rows.walkPrefixRow.shortTexts.isNone)=true:=by kernel_rfl
theorem j25:(Tryz.pinned.checked.prog.stopsHeard)=true:=by kernel_rfl
theorem j26:(Tryz.pinned.checked.prog.mayEnter)=true:=by kernel_rfl
theorem j27:(Rows.walkPrefixRow.lifted==Tryz.pinned.checked.prog.liftsFinal)=true:=by kernel_rfl
theorem j28:(Tryz.pinned.checked.prog.make==some Rows.walkPrefixRow.make)=true:=by kernel_rfl
theorem j29:(Rows.walkPrefixRow.kinds==(if Rows.walkPrefixRow.domain.isEmpty then []else Tryz.f4.params.toList.map fun t=>match Tryz.pinned.checked.prog.underlying t with|some (.int k)=>some k|_=>none))=true:=by kernel_rfl
theorem j30:(Rows.walkPrefixRow.pinned==Rows.walkPrefixRow.pinnedBy)=true:=by kernel_rfl
theorem j31:(Rows.walkPrefixRow.veiled==(Tryz.f4.params.toList++(OpenSpec.ofChange Rows.walkPrefixSpec).bare.plain.varTypes Tryz.pinned.checked.prog++Tryz.f4.resultTypes.toList).any (Tryz.pinned.checked.prog.veiledRec ·))=true:=by kernel_rfl
theorem j32:(Rows.walkPrefixRow.veiledFits Tryz.pinned.checked.prog Tryz.f4.params.toList (Tryz.f4.params.toList++(OpenSpec.ofChange Rows.walkPrefixSpec).bare.plain.varTypes Tryz.pinned.checked.prog++Tryz.f4.resultTypes.toList))=true:=by kernel_rfl
set_option maxRecDepth 100000 in
theorem closed:joinedFacts Tryz.pinned.checked.prog 4 Tryz.f4 (OpenSpec.ofChange Rows.walkPrefixSpec).bare Rows.walkPrefixRow=true:=jD (jD (jD (jD (jD (jD (jD (jD (jD (jD (jD (jD (jD (jD (jD (jD (jD (jD (jD (jD (jD (jD (jD (jD (jD (jD (jD (jD (jD (jD (jD j1 j2) j3) j4) j5) j6) j7) j8) j9) j10) j11) j12) j13) j14) j15) j16) j17) j18) j19) j20) j21) j22) j23) j24) j25) j26) j27) j28) j29) j30) j31) j32
theorem said:Rows.WalkPrefixSaid :=
 OpenClaim.holds_of_cond 4 Tryz.f4 rfl rfl rfl rfl rfl rfl rfl ⟨rfl,rfl,rfl,rfl,rfl⟩ rfl rfl rfl rfl rfl (by kernel_rfl) Tryz.func4 closed
  (of_decide_eq_true (by kernel_rfl)) (by unfold Func.isWrapper;first|(rw[if_pos (by decide +kernel)];kernel_rfl)|(rw[if_neg (by decide +kernel)];exact⟨rfl,rfl⟩))
  (fun os started H enc _ F=>by rw[OpenClaim.pre_eq_preRow];exact lifted os started H enc F)
theorem plain(f:FuncId)(fn:Func)(hf:Tryz.pinned.checked.prog.funcNamed "seisin/seisinlaw34.WalkPrefix"=some f)(hfn:Tryz.pinned.checked.prog.funcs[f]?=some fn) :
  true=Tryz.pinned.checked.prog.looks []∧∀(j:Nat) t,fn.params[j]?=some t→Tryz.pinned.checked.prog.wantsStandIn t=false:=by
 obtain rfl:f=4:=Option.some.inj ((show Tryz.prog.funcNamed "seisin/seisinlaw34.WalkPrefix"=some 4 by kernel_rfl).symm.trans hf) |>.symm
 obtain rfl:fn=Tryz.f4:=(Option.some.inj (Tryz.func4.symm.trans hfn)).symm
 refine⟨by kernel_rfl,fun j t ht=>?_⟩
 have hall:(Tryz.f4.params.toList).all (fun t=>!Tryz.prog.wantsStandIn t)=true:=by kernel_rfl
 have:=List.all_eq_true.1 hall t (Array.mem_toList_iff.2 (Array.mem_of_getElem? ht))
 exact(by simpa using this:Tryz.prog.wantsStandIn t=false)
theorem card:Rows.WalkPrefixCardSaid :=
 Claim7.holds_tied_plain_at .later [] _ _ _ _ said (fun _ h=>by cases h) (by kernel_rfl) (fun _ h=>by cases h) walkPrefix_row_tie rfl ⟨rfl,rfl⟩ (by kernel_rfl) rfl plain (by kernel_rfl)
#print axioms card
end Go.Proofs.YtpdphobnchajbaaGreatDoor.walkPrefix
