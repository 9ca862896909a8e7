/-
  The law SysListed, as its tied card states it: Steps lists a step if and only if Do does not refuse it as malformed, absent or waiting; no step twice, in the order of the kinds. Conditions: the row's own.
-/
import Derived.Test.YtpdphobnchajbaaGreatDoorCards
import Derived.Test.YtpdphobnchajbaaGreatDoorTie
import Derived.Lay
import Derived.Test.YtpdphobnchajbaaGreatDoorP05
import Derived.Test.YtpdphobnchajbaaGreatDoorP52
set_option linter.unusedSimpArgs false
set_option linter.unusedVariables false
namespace Go.Proofs.YtpdphobnchajbaaGreatDoor.sysListed
open Go Go.ChangeShapes Go.WideShapes Go.ChangeAt Go.RowKit Go.Proofs.YtpdphobnchajbaaGreatDoor
theorem own:ownKnob Tryz.prog.godebug=none:=by kernel_rfl
theorem laidOut:laidOutB Tryz.prog=true:=by kernel_rfl
theorem reads_all:(Tryz.f3.params.toList).all (fun t=>Tryz.prog.readableRec t&&decide (t<Tryz.prog.types.size))=true:=by kernel_rfl
set_option maxRecDepth 100000 in
theorem contract(H:Type)(enc:TypeId×Value→H)(W:World)(base:Nat)(args:Array Value)(ds gs:List (DataW H))(before:List MemPlace)
  (hval:∀(j:Nat) t v,Tryz.f3.params[j]?=some t→args[j]?=some v→Value.okWide Tryz.prog W .any base t v)
  (hW:DataW.Whole enc Tryz.prog Tryz.f3.params.toList Rows.sysListedSpec.vars false W args.toList ds gs before) (hsz:(DataW.weightsEach Tryz.prog (Tryz.f3.params.toList++(OpenSpec.ofChange Rows.sysListedSpec).bare.plain.varTypes Tryz.prog) (ds++gs)).all (·≤reachBytes)=true) (hL:laidMetH Tryz.prog Rows.sysListedRow.laid W) :
  Calls Tryz.prog 3 args W fun e W'=>∃ v,e=.returned v∧Rows.sysListedSpec.post enc Tryz.prog Tryz.f3 false true false false W args v W':=by
 have hW':=hW
 obtain⟨p,q,hA0,hV,rfl,hfz,hnd⟩:=hW
 have hA:DataW.TrodAll enc Tryz.prog W 0 (fun _=>true) true Tryz.f3.params.toList args.toList ds p:=hA0
 rw[Tryz.params3]at hA hval hsz
 obtain⟨v0,vs0,d0,ds0,p0,q0,hargs,rfl,rfl,h0,t0⟩:=trodAll_cons hA
 obtain⟨v1,vs1,d1,ds1,p1,q1,rfl,rfl,rfl,h1,t1⟩:=trodAll_cons t0
 obtain⟨v2,vs2,d2,ds2,p2,q2,rfl,rfl,rfl,h2,t2⟩:=trodAll_cons t1
 obtain⟨rfl,rfl,rfl⟩:=trodAll_nil t2
 obtain rfl:args=#[v0,v1,v2]:=by cases args;simp_all
 clear hA0
 have hGl:Ev.Gl Ev.CWL.T.gl (fun _=>False) W:=gl_of_laid (by kernel_rfl) hL (by kernel_rfl) (fun g hg=>by cases hg)
 obtain⟨_,⟨w,wo,rfl⟩,r0⟩:=open_world (okWide_struct Tryz.underlying44 (hval 0 44 v0 rfl rfl)) h0 (fun k hk=>by simpa using List.all_eq_true.1 hsz k (DataW.weights_mem_each (j:=0) (t:=44) rfl rfl k hk))
 obtain⟨_,⟨s,hs,rfl⟩,r1⟩:=open_sys (okWide_struct Tryz.underlying58 (hval 1 58 v1 rfl rfl)) h1 (fun k hk=>by simpa using List.all_eq_true.1 hsz k (DataW.weights_mem_each (j:=1) (t:=58) rfl rfl k hk))
 obtain⟨_,⟨x,xo,rfl⟩,r2⟩:=open_step (okWide_struct Tryz.underlying62 (hval 2 62 v2 rfl rfl)) h2 (fun k hk=>by simpa using List.all_eq_true.1 hsz k (DataW.weights_mem_each (j:=2) (t:=62) rfl rfl k hk))
 refine((Ev.SysListed_ev wo hs xo).calls Ev.CWL_ok Ev.CWL_B W _ hGl (Ev.RL.cons r0 (Ev.RL.cons r1 (Ev.RL.cons r2 Ev.RL.nil)))).mono ?_
 rintro e W' ⟨v,rfl,hb,hv⟩
 rw[Ev.R]at hv
 subst hv
 exact⟨_,rfl,law_post laidOut reads_all rfl rfl Tryz.underlying4 ⟨rfl,rfl,rfl⟩ hW' hb⟩
abbrev zu:Value:=.int .u8 0
abbrev zw:Value:=.int .u16 0
abbrev zi:Value:=.int .i64 0
abbrev zq:Value:=.int .u64 0
abbrev zf:Value:=.bool false
abbrev zn:Value:=.slice none 0 0
abbrev zs:Value:=.string ⟨#[]⟩
def wit:Array Value:=#[.agg #[zs,zn,zn,zn,zu,zu,zu,zu,zu,zn,zi,zi,zi,zi,zi,zu,zu,zu,zi,zf,zs,zu,zu,zw,zu,zu,zw,zu,zu,zw,zu,zu,zw,zu,zu,zw,zu,zu,zw,zu,zu,zw,zu,zu,zw,zu,zu,zw,zu,zu,zw,zu,zu,zw,zu,zu,zw,zu,zu,zw,zu,zu,zw,zu,zu,zw,zu,zu,zw,zu,zu,zw,zu,zu,zw,zu,zu,zw,zu,zu,zw,zu,zu,zw,zu,zu,zw,zu,zu,zw,zu,zu,zw,zu,zu,zw,zu,zu,zw,zu,zu,zw,zu,zu,zw,zu,zu,zw,zu,zu,zw,zu,zu,zw,zu,zu,zw,zu,zu,zw,zu,zu,zw,zu,zu,zw,zu,zu,zw,zu,zu,zw,zu,zu,zw,zu,zu,zw,zu,zu,zw,zu,zu,zw,zu,zu,zw,zu,zu,zw,zu,zu,zw,zu,zu,zw,zu,zu,zw,zu,zu,zw,zu,zu,zw,zu,zu,zw,zu,zu,zw,zu,zu,zw,zu,zu,zw,zu,zu,zw,zu,zu,zw,zu,zu,zw,zu,zu,zw,zu,zu,zw,zu,zu,zw,zu,zu,zw,zu,zu,zw,zu,zu,zw,zu,zu,zw,zu,zu,zw,zu,zu,zw,zu,zu,zw,zu,zu,zw,zu,zu,zw,zu,zu,zw,zu,zu,zw,zu,zu,zw,zu,zu,zw,zu,zu,zw,zu,zu,zw,zu,zu,zw,zu,zu,zw,zu,zu,zw,zu,zu,zw,zu,zu,zw,zu,zu,zw,zu,zu,zw,zu,zu,zw,zu,zu,zw,zu,zu,zw,zu,zu,zw,zu,zu,zw,zu,zu,zw,zu,zu,zw,zu,zu,zw,zu,zu,zw,zu,zu,zw,zu,zu,zw,zu,zu,zw,zu,zu,zw,zu,zu,zw,zu,zu,zw,zu,zu,zw,zu,zu,zw,zu,zu,zw,zu,zu,zw,zu,zu,zw,zu,zu,zw,zu,zu,zw,zu,zu,zw,zu,zu,zw,zu,zu,zw,zu,zu,zw,zu,zu,zw,zu,zu,zw,zu,zu,zw,zu,zu,zw,zu,zu,zw,zu,zu,zw,zu,zu,zw,zu,zu,zw,zu,zu,zw,zu,zu,zw,zu,zu,zw,zu,zu,zw,zu,zu,zw,zu,zu,zw,zu,zu,zw,zu,zu,zw,zu,zu,zw,zu,zu,zw,zu,zu,zw,zu,zu,zw,zu,zu,zw,zu,zu,zw,zu,zu,zw,zu,zu,zw,zu,zu,zw,zu,zu,zw,zu,zu,zw,zu,zu,zw,zu,zu,zw,zu,zu,zw,zu,zu,zw,zu,zu,zw,zu,zu,zw,zu,zu,zw,zu,zu,zw,zu,zu,zw,zu,zu,zw,zu,zu,zw,zu,zu,zw,zu,zu,zw,zu,zu,zw,zu,zu,zw,zu,zu,zw,zu,zu,zw,zu,zu,zw,zu,zu,zw,zu,zu,zw,zu,zu,zw,zu,zu,zw,zu,zu,zw,zu,zu,zw,zu,zu,zw,zu,zu,zw,zu,zu,zw,zu,zu,zw,zu,zu,zw,zu,zu,zw,zu,zu,zw,zu,zu,zw,zu,zu,zw,zu,zu,zw,zu,zu,zw,zu,zu,zw,zu,zu,zw,zu,zu,zw,zu,zu,zw,zu,zu,zw,zu,zu,zw,zu,zu,zw,zu,zu,zw,zu,zu,zw,zu,zu,zw,zu,zu,zw,zu,zu,zw,zu,zu,zw,zu,zu,zw,zu,zu,zw,zu,zu,zw,zu,zu,zw,zu,zu,zw,zu,zu,zw,zu,zu,zw],.agg #[zn,zn,zu,zu,zu,zq,zf,zu,zu,zu,zu,zu,zu,zu,zu,zu,zq,zf,zu,zu,zu,zu,zu,zu,zu,zu,zu,zq,zf,zu,zu,zu,zu,zu,zu,zu,zu,zu,zq,zf,zu,zu,zu,zu,zu,zu,zu,zu,zu,zq,zf,zu,zu,zu,zu,zu,zu,zu,zu,zu,zq,zf,zu,zu,zu,zu,zu,zu,zn],.agg #[zu,zu,zu,zu,zu,zu,zu,zu,zu,zf,zu,zu,zu,zu]]
section
variable{H:Type}
abbrev yu:DataW H:=.lit (.int .u8 0)
abbrev yw:DataW H:=.lit (.int .u16 0)
abbrev yi:DataW H:=.lit (.int .i64 0)
abbrev yq:DataW H:=.lit (.int .u64 0)
abbrev yf:DataW H:=.lit (.bool false)
abbrev yn:DataW H:=.nil
abbrev ys:DataW H:=.lit (.string [])
def dat:List (DataW H):=[.agg [.agg [ys,yn,yn,yn,yu,.agg [yu,yu,yu,yu,yn]],.agg [yi,yi,yi,yi,yi],.agg [yu,yu,yu,yi,yf],.agg [ys,.agg [.agg [.agg [yu,yu,yw],.agg [yu,yu,yw],.agg [yu,yu,yw],.agg [yu,yu,yw],.agg [yu,yu,yw],.agg [yu,yu,yw],.agg [yu,yu,yw],.agg [yu,yu,yw],.agg [yu,yu,yw],.agg [yu,yu,yw],.agg [yu,yu,yw],.agg [yu,yu,yw],.agg [yu,yu,yw],.agg [yu,yu,yw]],.agg [.agg [yu,yu,yw],.agg [yu,yu,yw],.agg [yu,yu,yw],.agg [yu,yu,yw],.agg [yu,yu,yw],.agg [yu,yu,yw],.agg [yu,yu,yw],.agg [yu,yu,yw],.agg [yu,yu,yw],.agg [yu,yu,yw],.agg [yu,yu,yw],.agg [yu,yu,yw],.agg [yu,yu,yw],.agg [yu,yu,yw]],.agg [.agg [yu,yu,yw],.agg [yu,yu,yw],.agg [yu,yu,yw],.agg [yu,yu,yw],.agg [yu,yu,yw],.agg [yu,yu,yw],.agg [yu,yu,yw],.agg [yu,yu,yw],.agg [yu,yu,yw],.agg [yu,yu,yw],.agg [yu,yu,yw],.agg [yu,yu,yw],.agg [yu,yu,yw],.agg [yu,yu,yw]],.agg [.agg [yu,yu,yw],.agg [yu,yu,yw],.agg [yu,yu,yw],.agg [yu,yu,yw],.agg [yu,yu,yw],.agg [yu,yu,yw],.agg [yu,yu,yw],.agg [yu,yu,yw],.agg [yu,yu,yw],.agg [yu,yu,yw],.agg [yu,yu,yw],.agg [yu,yu,yw],.agg [yu,yu,yw],.agg [yu,yu,yw]],.agg [.agg [yu,yu,yw],.agg [yu,yu,yw],.agg [yu,yu,yw],.agg [yu,yu,yw],.agg [yu,yu,yw],.agg [yu,yu,yw],.agg [yu,yu,yw],.agg [yu,yu,yw],.agg [yu,yu,yw],.agg [yu,yu,yw],.agg [yu,yu,yw],.agg [yu,yu,yw],.agg [yu,yu,yw],.agg [yu,yu,yw]],.agg [.agg [yu,yu,yw],.agg [yu,yu,yw],.agg [yu,yu,yw],.agg [yu,yu,yw],.agg [yu,yu,yw],.agg [yu,yu,yw],.agg [yu,yu,yw],.agg [yu,yu,yw],.agg [yu,yu,yw],.agg [yu,yu,yw],.agg [yu,yu,yw],.agg [yu,yu,yw],.agg [yu,yu,yw],.agg [yu,yu,yw]],.agg [.agg [yu,yu,yw],.agg [yu,yu,yw],.agg [yu,yu,yw],.agg [yu,yu,yw],.agg [yu,yu,yw],.agg [yu,yu,yw],.agg [yu,yu,yw],.agg [yu,yu,yw],.agg [yu,yu,yw],.agg [yu,yu,yw],.agg [yu,yu,yw],.agg [yu,yu,yw],.agg [yu,yu,yw],.agg [yu,yu,yw]],.agg [.agg [yu,yu,yw],.agg [yu,yu,yw],.agg [yu,yu,yw],.agg [yu,yu,yw],.agg [yu,yu,yw],.agg [yu,yu,yw],.agg [yu,yu,yw],.agg [yu,yu,yw],.agg [yu,yu,yw],.agg [yu,yu,yw],.agg [yu,yu,yw],.agg [yu,yu,yw],.agg [yu,yu,yw],.agg [yu,yu,yw]],.agg [.agg [yu,yu,yw],.agg [yu,yu,yw],.agg [yu,yu,yw],.agg [yu,yu,yw],.agg [yu,yu,yw],.agg [yu,yu,yw],.agg [yu,yu,yw],.agg [yu,yu,yw],.agg [yu,yu,yw],.agg [yu,yu,yw],.agg [yu,yu,yw],.agg [yu,yu,yw],.agg [yu,yu,yw],.agg [yu,yu,yw]],.agg [.agg [yu,yu,yw],.agg [yu,yu,yw],.agg [yu,yu,yw],.agg [yu,yu,yw],.agg [yu,yu,yw],.agg [yu,yu,yw],.agg [yu,yu,yw],.agg [yu,yu,yw],.agg [yu,yu,yw],.agg [yu,yu,yw],.agg [yu,yu,yw],.agg [yu,yu,yw],.agg [yu,yu,yw],.agg [yu,yu,yw]],.agg [.agg [yu,yu,yw],.agg [yu,yu,yw],.agg [yu,yu,yw],.agg [yu,yu,yw],.agg [yu,yu,yw],.agg [yu,yu,yw],.agg [yu,yu,yw],.agg [yu,yu,yw],.agg [yu,yu,yw],.agg [yu,yu,yw],.agg [yu,yu,yw],.agg [yu,yu,yw],.agg [yu,yu,yw],.agg [yu,yu,yw]],.agg [.agg [yu,yu,yw],.agg [yu,yu,yw],.agg [yu,yu,yw],.agg [yu,yu,yw],.agg [yu,yu,yw],.agg [yu,yu,yw],.agg [yu,yu,yw],.agg [yu,yu,yw],.agg [yu,yu,yw],.agg [yu,yu,yw],.agg [yu,yu,yw],.agg [yu,yu,yw],.agg [yu,yu,yw],.agg [yu,yu,yw]]],.agg [.agg [.agg [yu,yu,yw],.agg [yu,yu,yw],.agg [yu,yu,yw],.agg [yu,yu,yw],.agg [yu,yu,yw]],.agg [.agg [yu,yu,yw],.agg [yu,yu,yw],.agg [yu,yu,yw],.agg [yu,yu,yw],.agg [yu,yu,yw]],.agg [.agg [yu,yu,yw],.agg [yu,yu,yw],.agg [yu,yu,yw],.agg [yu,yu,yw],.agg [yu,yu,yw]],.agg [.agg [yu,yu,yw],.agg [yu,yu,yw],.agg [yu,yu,yw],.agg [yu,yu,yw],.agg [yu,yu,yw]]]]],.agg [yn,yn,.agg [.agg [yu,yu,.agg [yu,yq,yf],yu,yu,.agg [yu,yu,yu,yu]],.agg [yu,yu,.agg [yu,yq,yf],yu,yu,.agg [yu,yu,yu,yu]],.agg [yu,yu,.agg [yu,yq,yf],yu,yu,.agg [yu,yu,yu,yu]],.agg [yu,yu,.agg [yu,yq,yf],yu,yu,.agg [yu,yu,yu,yu]],.agg [yu,yu,.agg [yu,yq,yf],yu,yu,.agg [yu,yu,yu,yu]],.agg [yu,yu,.agg [yu,yq,yf],yu,yu,.agg [yu,yu,yu,yu]]],yn],.agg [yu,yu,yu,.agg [yu,yu,yu,yu,yu,yu,yf,.agg [yu,yu,yu,yu]]]]
end
noncomputable def laidWorld(os:Os):World :=
 World.laidAll Tryz.prog os Rows.sysListedRow.laid
set_option maxRecDepth 100000 in
theorem laid_met(os:Os):laidMet Tryz.prog Rows.sysListedRow.laid ((laidWorld os).forCall (fun _ _=>0) ⟨#[],wit,[]⟩).memory :=
 laidMet_of_run' 8 (by kernel_rfl) (by kernel_rfl)
set_option maxRecDepth 100000 in
theorem reads(os:Os){H:Type}(enc:TypeId×Value→H):∃ places,DataW.whole enc Tryz.prog ((laidWorld os).forCall (fun _ _=>0) ⟨#[],wit,[]⟩).memory Tryz.f3.params.toList Rows.sysListedSpec.vars false wit.toList 8=some (dat,[],places) :=
 ⟨[],by kernel_rfl⟩
set_option maxRecDepth 100000 in
theorem lifted(os:Os)(started:os.Started)(H:Type)(enc:TypeId×Value→H)(F:Stop.Interp) :
  ReturnsInHanded {} Tryz.checked os 3 .any ((OpenSpec.ofChange Rows.sysListedSpec).preRow enc Tryz.prog Tryz.f3 Rows.sysListedRow.domain false Rows.sysListedRow.laid) (((OpenSpec.ofChange Rows.sysListedSpec).at F).post enc Tryz.prog Tryz.f3 false true false false):=by
 obtain⟨places,hx⟩:=reads os enc
 refine returnsInHanded_of_row (C:=Tryz.checked) (s:=OpenSpec.ofChange Rows.sysListedSpec) own started (by kernel_rfl) Tryz.func3
  (witness_row_at (enc:=enc) (C:=Tryz.checked) false (laidWorld os) wit (World.laidAll_os _ _ _) (by kernel_rfl) (by kernel_rfl) (by kernel_rfl)
   (OpenSpec.preRow_of_cond 8 hx (by kernel_rfl) (fun k hk=>by cases hk) (by kernel_rfl) (laid_met os))) ?_
 intro W base args ds gs before hval hW _ _ hsz hL _ _
 exact contract H enc W base args ds gs before hval hW hsz hL
theorem and2{a b:Bool}(h:a=true)(h2:b=true):(a&&b)=true:=by rw[h,h2];rfl
theorem j1:(Rows.sysListedRow.wf (OpenSpec.ofChange (OpenSpec.ofChange Rows.sysListedSpec).bare))=true:=by kernel_rfl
theorem j2:(laidOutB Tryz.pinned.checked.prog)=true:=by kernel_rfl
theorem j3:(mapsRowed Tryz.pinned.checked.prog)=true:=by kernel_rfl
theorem j4:(Tryz.f3.params.all (Tryz.pinned.checked.prog.readableRec ·))=true:=by kernel_rfl
theorem j5:(namedTie Tryz.pinned.checked.prog Rows.sysListedRow.named (OpenSpec.ofChange Rows.sysListedSpec).bare.vars)=true:=by kernel_rfl
theorem j6:(Rows.sysListedRow.stops==[])=true:=by kernel_rfl
theorem j7:(Tryz.pinned.checked.prog.stops==[])=true:=by kernel_rfl
theorem j8:(Rows.sysListedRow.knobs==[])=true:=by kernel_rfl
theorem j9:(Tryz.pinned.checked.prog.stopKnobs==[])=true:=by kernel_rfl
theorem j10:(Rows.sysListedRow.inPlace==Tryz.pinned.checked.prog.inPlace 3)=true:=by kernel_rfl
theorem j11:(Rows.sysListedRow.unfollowed==Tryz.pinned.checked.prog.unfollowed 3)=true:=by kernel_rfl
theorem j12:(Rows.sysListedRow.recurses==Tryz.pinned.checked.prog.recurses 3)=true:=by kernel_rfl
theorem j13:(Rows.sysListedRow.named==Tryz.pinned.checked.prog.varsNamed 3)=true:=by kernel_rfl
theorem j14:(Rows.sysListedRow.maps==(Tryz.f3.params.toList++(OpenSpec.ofChange Rows.sysListedSpec).bare.plain.varTypes Tryz.pinned.checked.prog).any (Tryz.pinned.checked.prog.mapsRec ·))=true:=by kernel_rfl
theorem j15:(Rows.sysListedRow.ifaces==(Tryz.f3.params.toList++(OpenSpec.ofChange Rows.sysListedSpec).bare.plain.varTypes Tryz.pinned.checked.prog).any (Tryz.pinned.checked.prog.ifacesRec ·))=true:=by kernel_rfl
theorem j16:(Rows.sysListedRow.mapsOut==Tryz.pinned.checked.prog.mapsAmong Tryz.f3.resultTypes.toList)=true:=by kernel_rfl
theorem j17:(Rows.sysListedRow.loops==(Tryz.f3.params.toList++(OpenSpec.ofChange Rows.sysListedSpec).bare.plain.varTypes Tryz.pinned.checked.prog).any (Tryz.pinned.checked.prog.loopsFrom ·))=true:=by kernel_rfl
theorem j18:(Rows.sysListedRow.wideKeys==(Tryz.f3.params.toList++(OpenSpec.ofChange Rows.sysListedSpec).bare.plain.varTypes Tryz.pinned.checked.prog++Tryz.f3.resultTypes.toList).any (Tryz.pinned.checked.prog.wideKeysFrom ·))=true:=by kernel_rfl
theorem j19:((OpenSpec.ofChange Rows.sysListedSpec).bare.vars.all (Tryz.pinned.checked.prog.varReadable ·))=true:=by kernel_rfl
theorem j20:(Tryz.f3.resultTypes.all (fun t=>Tryz.pinned.checked.prog.readableRec t&&decide (t<Tryz.pinned.checked.prog.types.size)))=true:=by kernel_rfl
theorem j21:(Rows.sysListedRow.ifacesOut==Tryz.f3.resultTypes.toList.any (Tryz.pinned.checked.prog.ifacesRec ·))=true:=by kernel_rfl
theorem j22:(Rows.sysListedRow.loopsOut==Tryz.f3.resultTypes.toList.any (Tryz.pinned.checked.prog.loopsFrom ·))=true:=by kernel_rfl
theorem j23:(Rows.sysListedRow.plainKeys==Tryz.pinned.checked.prog.plainKeys)=true:=by kernel_rfl
theorem j24:(Rows.sysListedRow.shortTexts.isNone)=true:=by kernel_rfl
theorem j25:(Tryz.pinned.checked.prog.stopsHeard)=true:=by kernel_rfl
theorem j26:(Tryz.pinned.checked.prog.mayEnter)=true:=by kernel_rfl
theorem j27:(Rows.sysListedRow.lifted==Tryz.pinned.checked.prog.liftsFinal)=true:=by kernel_rfl
theorem j28:(Tryz.pinned.checked.prog.make==some Rows.sysListedRow.make)=true:=by kernel_rfl
theorem j29:(Rows.sysListedRow.kinds==(if Rows.sysListedRow.domain.isEmpty then []else Tryz.f3.params.toList.map fun t=>match Tryz.pinned.checked.prog.underlying t with|some (.int k)=>some k|_=>none))=true:=by kernel_rfl
theorem j30:(Rows.sysListedRow.pinned==Rows.sysListedRow.pinnedBy)=true:=by kernel_rfl
theorem j31:(Rows.sysListedRow.veiled==(Tryz.f3.params.toList++(OpenSpec.ofChange Rows.sysListedSpec).bare.plain.varTypes Tryz.pinned.checked.prog++Tryz.f3.resultTypes.toList).any (Tryz.pinned.checked.prog.veiledRec ·))=true:=by kernel_rfl
theorem j32:(Rows.sysListedRow.veiledFits Tryz.pinned.checked.prog Tryz.f3.params.toList (Tryz.f3.params.toList++(OpenSpec.ofChange Rows.sysListedSpec).bare.plain.varTypes Tryz.pinned.checked.prog++Tryz.f3.resultTypes.toList))=true:=by kernel_rfl
set_option maxRecDepth 100000 in
theorem closed:joinedFacts Tryz.pinned.checked.prog 3 Tryz.f3 (OpenSpec.ofChange Rows.sysListedSpec).bare Rows.sysListedRow=true:=and2 (and2 (and2 (and2 (and2 (and2 (and2 (and2 (and2 (and2 (and2 (and2 (and2 (and2 (and2 (and2 (and2 (and2 (and2 (and2 (and2 (and2 (and2 (and2 (and2 (and2 (and2 (and2 (and2 (and2 (and2 j1 j2) j3) j4) j5) j6) j7) j8) j9) j10) j11) j12) j13) j14) j15) j16) j17) j18) j19) j20) j21) j22) j23) j24) j25) j26) j27) j28) j29) j30) j31) j32
theorem said:Rows.SysListedSaid :=
 OpenClaim.holds_of_cond 3 Tryz.f3 rfl rfl rfl rfl rfl rfl rfl ⟨rfl,rfl,rfl,rfl,rfl⟩ rfl rfl rfl rfl rfl (by kernel_rfl) Tryz.func3 closed
  (of_decide_eq_true (by kernel_rfl)) (by unfold Func.isWrapper;first|(rw[if_pos (by decide +kernel)];kernel_rfl)|(rw[if_neg (by decide +kernel)];exact⟨rfl,rfl⟩))
  (fun os started H enc _ F=>by rw[OpenClaim.pre_eq_preRow];exact lifted os started H enc F)
theorem plain(f:FuncId)(fn:Func)(hf:Tryz.pinned.checked.prog.funcNamed "seisin/seisinlaw31.SysListed"=some f)(hfn:Tryz.pinned.checked.prog.funcs[f]?=some fn) :
  true=Tryz.pinned.checked.prog.looks []∧∀(j:Nat) t,fn.params[j]?=some t→Tryz.pinned.checked.prog.wantsStandIn t=false:=by
 obtain rfl:f=3:=Option.some.inj ((show Tryz.prog.funcNamed "seisin/seisinlaw31.SysListed"=some 3 by kernel_rfl).symm.trans hf) |>.symm
 obtain rfl:fn=Tryz.f3:=(Option.some.inj (Tryz.func3.symm.trans hfn)).symm
 refine⟨by kernel_rfl,fun j t ht=>?_⟩
 have hall:(Tryz.f3.params.toList).all (fun t=>!Tryz.prog.wantsStandIn t)=true:=by kernel_rfl
 have:=List.all_eq_true.1 hall t (Array.mem_toList_iff.2 (Array.mem_of_getElem? ht))
 exact(by simpa using this:Tryz.prog.wantsStandIn t=false)
theorem card:Rows.SysListedCardSaid :=
 Claim7.holds_tied_plain_at .later [] _ _ _ _ said (fun _ h=>by cases h) (by kernel_rfl) (fun _ h=>by cases h) sysListed_row_tie rfl ⟨rfl,rfl⟩ (by kernel_rfl) rfl plain (by kernel_rfl)
#print axioms card
end Go.Proofs.YtpdphobnchajbaaGreatDoor.sysListed
