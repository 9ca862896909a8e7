/-
  The law ReachEnds, as its row states it: Ends is true if and only if each reachable state is in the least set that contains the final states and every state with a step into the set. Conditions: the row's own.
-/
import Derived.Test.YtcgigdeehcmdkaaGreatDoorCards
import Derived.Test.YtcgigdeehcmdkaaGreatDoorTie
import Derived.Lay
import Derived.Test.YtcgigdeehcmdkaaGreatDoorL49
set_option linter.all false
namespace Go.Proofs.YtcgigdeehcmdkaaGreatDoor.reachEnds
open Go Go.ChangeShapes Go.WideShapes Go.ChangeAt Go.RowKit Go.Proofs.YtcgigdeehcmdkaaGreatDoor
theorem own:ownKnob Tryz.prog.godebug=none:=by kernel_rfl
theorem aH0:laidOutB Tryz.prog=true:=by kernel_rfl
theorem YA:(Tryz.f5.params.toList).all (fun t=>Tryz.prog.readableRec t&&decide (t<Tryz.prog.types.size))=true:=by kernel_rfl
set_option maxRecDepth 100000 in theorem contract(H:Type)(enc:TypeId×Value->H)(W:World)(base:Nat)(args:Array Value)(ds gs:List (DataW H))(before:List MemPlace) (hval:∀(j:Nat) t v,Tryz.f5.params[j]?=some t->args[j]?=some v->Value.okWide Tryz.prog W .any base t v) (hW:DataW.Whole enc Tryz.prog Tryz.f5.params.toList Rows.reachEndsSpec.vars false W args.toList ds gs before) (hsz:(DataW.weightsEach Tryz.prog (Tryz.f5.params.toList++(OpenSpec.ofChange Rows.reachEndsSpec).bare.plain.varTypes Tryz.prog) (ds++gs)).all (·<=reachBytes)=true) (hL:laidMetH Tryz.prog Rows.reachEndsRow.laid W):Calls Tryz.prog 5 args W fun e W'=>∃v,e=.returned v/\Rows.reachEndsSpec.post enc Tryz.prog Tryz.f5 false true false false W args v W':=by have hW':=hW;obtain⟨p,q,hA0,hV,rfl,hfz,hnd⟩:=hW;have hA:DataW.TrodAll enc Tryz.prog W 0 (fun _=>true) true Tryz.f5.params.toList args.toList ds p:=hA0;rw[Tryz.params5]at hA hval hsz;obtain⟨v0,vs0,d0,ds0,p0,q0,hargs,rfl,rfl,h0,t0⟩:=trodAll_cons hA;obtain⟨rfl,rfl,rfl⟩:=trodAll_nil t0;(obtain rfl:args=#[v0]:=by cases args;simp_all);clear hA0;have hGl:Ev.Gl Ev.CWD.T.gl (fun _=>False) W:=MQ (by kernel_rfl) hL (by kernel_rfl) (fun g hg=>by cases hg);obtain⟨_,⟨w,wo,rfl⟩,r0⟩:=L0 (okWide_struct Tryz.underlying44 (hval 0 44 v0 rfl rfl)) h0 (fun k hk=>by simpa using List.all_eq_true.1 hsz k (DataW.weights_mem_each (j:=0) (t:=44) rfl rfl k hk));refine((Ev.ReachEnds_ev wo).calls Ev.CWD_ok Ev.CWD_B W _ hGl (Ev.RL.cons r0 Ev.RL.nil)).mono ?_;rintro e W' ⟨v,rfl,hb,hv⟩;rw[Ev.R]at hv;subst hv;exact⟨_,rfl,Z8 aH0 YA rfl rfl Tryz.underlying4 ⟨rfl,rfl,rfl⟩ hW' hb⟩
abbrev zu:Value:=.int .u8 0
abbrev zw:Value:=.int .u16 0
abbrev zi:Value:=.int .i64 0
abbrev zq:Value:=.int .u64 0
abbrev zf:Value:=.bool false
abbrev zn:Value:=.slice none 0 0
abbrev zs:Value:=.string ⟨#[]⟩
def wit:Array Value:=#[.agg #[zs,zn,zn,zn,zu,zu,zu,zu,zu,zn,zi,zi,zi,zi,zi,zu,zu,zu,zi,zf,zs,zu,zu,zw,zu,zu,zw,zu,zu,zw,zu,zu,zw,zu,zu,zw,zu,zu,zw,zu,zu,zw,zu,zu,zw,zu,zu,zw,zu,zu,zw,zu,zu,zw,zu,zu,zw,zu,zu,zw,zu,zu,zw,zu,zu,zw,zu,zu,zw,zu,zu,zw,zu,zu,zw,zu,zu,zw,zu,zu,zw,zu,zu,zw,zu,zu,zw,zu,zu,zw,zu,zu,zw,zu,zu,zw,zu,zu,zw,zu,zu,zw,zu,zu,zw,zu,zu,zw,zu,zu,zw,zu,zu,zw,zu,zu,zw,zu,zu,zw,zu,zu,zw,zu,zu,zw,zu,zu,zw,zu,zu,zw,zu,zu,zw,zu,zu,zw,zu,zu,zw,zu,zu,zw,zu,zu,zw,zu,zu,zw,zu,zu,zw,zu,zu,zw,zu,zu,zw,zu,zu,zw,zu,zu,zw,zu,zu,zw,zu,zu,zw,zu,zu,zw,zu,zu,zw,zu,zu,zw,zu,zu,zw,zu,zu,zw,zu,zu,zw,zu,zu,zw,zu,zu,zw,zu,zu,zw,zu,zu,zw,zu,zu,zw,zu,zu,zw,zu,zu,zw,zu,zu,zw,zu,zu,zw,zu,zu,zw,zu,zu,zw,zu,zu,zw,zu,zu,zw,zu,zu,zw,zu,zu,zw,zu,zu,zw,zu,zu,zw,zu,zu,zw,zu,zu,zw,zu,zu,zw,zu,zu,zw,zu,zu,zw,zu,zu,zw,zu,zu,zw,zu,zu,zw,zu,zu,zw,zu,zu,zw,zu,zu,zw,zu,zu,zw,zu,zu,zw,zu,zu,zw,zu,zu,zw,zu,zu,zw,zu,zu,zw,zu,zu,zw,zu,zu,zw,zu,zu,zw,zu,zu,zw,zu,zu,zw,zu,zu,zw,zu,zu,zw,zu,zu,zw,zu,zu,zw,zu,zu,zw,zu,zu,zw,zu,zu,zw,zu,zu,zw,zu,zu,zw,zu,zu,zw,zu,zu,zw,zu,zu,zw,zu,zu,zw,zu,zu,zw,zu,zu,zw,zu,zu,zw,zu,zu,zw,zu,zu,zw,zu,zu,zw,zu,zu,zw,zu,zu,zw,zu,zu,zw,zu,zu,zw,zu,zu,zw,zu,zu,zw,zu,zu,zw,zu,zu,zw,zu,zu,zw,zu,zu,zw,zu,zu,zw,zu,zu,zw,zu,zu,zw,zu,zu,zw,zu,zu,zw,zu,zu,zw,zu,zu,zw,zu,zu,zw,zu,zu,zw,zu,zu,zw,zu,zu,zw,zu,zu,zw,zu,zu,zw,zu,zu,zw,zu,zu,zw,zu,zu,zw,zu,zu,zw,zu,zu,zw,zu,zu,zw,zu,zu,zw,zu,zu,zw,zu,zu,zw,zu,zu,zw,zu,zu,zw,zu,zu,zw,zu,zu,zw,zu,zu,zw,zu,zu,zw,zu,zu,zw,zu,zu,zw,zu,zu,zw,zu,zu,zw,zu,zu,zw,zu,zu,zw,zu,zu,zw,zu,zu,zw,zu,zu,zw,zu,zu,zw,zu,zu,zw,zu,zu,zw,zu,zu,zw,zu,zu,zw,zu,zu,zw,zu,zu,zw,zu,zu,zw,zu,zu,zw,zu,zu,zw,zu,zu,zw,zu,zu,zw,zu,zu,zw,zu,zu,zw,zu,zu,zw,zu,zu,zw,zu,zu,zw,zu,zu,zw,zu,zu,zw,zu,zu,zw,zu,zu,zw,zu,zu,zw,zu,zu,zw,zu,zu,zw,zu,zu,zw,zu,zu,zw,zu,zu,zw]]
section
variable{H:Type}
abbrev yu:DataW H:=.lit (.int .u8 0)
abbrev yw:DataW H:=.lit (.int .u16 0)
abbrev yi:DataW H:=.lit (.int .i64 0)
abbrev yq:DataW H:=.lit (.int .u64 0)
abbrev yf:DataW H:=.lit (.bool false)
abbrev yn:DataW H:=.nil
abbrev ys:DataW H:=.lit (.string [])
def dat:List (DataW H):=[.agg [.agg [ys,yn,yn,yn,yu,.agg [yu,yu,yu,yu,yn]],.agg [yi,yi,yi,yi,yi],.agg [yu,yu,yu,yi,yf],.agg [ys,.agg [.agg [.agg [yu,yu,yw],.agg [yu,yu,yw],.agg [yu,yu,yw],.agg [yu,yu,yw],.agg [yu,yu,yw],.agg [yu,yu,yw],.agg [yu,yu,yw],.agg [yu,yu,yw],.agg [yu,yu,yw],.agg [yu,yu,yw],.agg [yu,yu,yw],.agg [yu,yu,yw],.agg [yu,yu,yw],.agg [yu,yu,yw]],.agg [.agg [yu,yu,yw],.agg [yu,yu,yw],.agg [yu,yu,yw],.agg [yu,yu,yw],.agg [yu,yu,yw],.agg [yu,yu,yw],.agg [yu,yu,yw],.agg [yu,yu,yw],.agg [yu,yu,yw],.agg [yu,yu,yw],.agg [yu,yu,yw],.agg [yu,yu,yw],.agg [yu,yu,yw],.agg [yu,yu,yw]],.agg [.agg [yu,yu,yw],.agg [yu,yu,yw],.agg [yu,yu,yw],.agg [yu,yu,yw],.agg [yu,yu,yw],.agg [yu,yu,yw],.agg [yu,yu,yw],.agg [yu,yu,yw],.agg [yu,yu,yw],.agg [yu,yu,yw],.agg [yu,yu,yw],.agg [yu,yu,yw],.agg [yu,yu,yw],.agg [yu,yu,yw]],.agg [.agg [yu,yu,yw],.agg [yu,yu,yw],.agg [yu,yu,yw],.agg [yu,yu,yw],.agg [yu,yu,yw],.agg [yu,yu,yw],.agg [yu,yu,yw],.agg [yu,yu,yw],.agg [yu,yu,yw],.agg [yu,yu,yw],.agg [yu,yu,yw],.agg [yu,yu,yw],.agg [yu,yu,yw],.agg [yu,yu,yw]],.agg [.agg [yu,yu,yw],.agg [yu,yu,yw],.agg [yu,yu,yw],.agg [yu,yu,yw],.agg [yu,yu,yw],.agg [yu,yu,yw],.agg [yu,yu,yw],.agg [yu,yu,yw],.agg [yu,yu,yw],.agg [yu,yu,yw],.agg [yu,yu,yw],.agg [yu,yu,yw],.agg [yu,yu,yw],.agg [yu,yu,yw]],.agg [.agg [yu,yu,yw],.agg [yu,yu,yw],.agg [yu,yu,yw],.agg [yu,yu,yw],.agg [yu,yu,yw],.agg [yu,yu,yw],.agg [yu,yu,yw],.agg [yu,yu,yw],.agg [yu,yu,yw],.agg [yu,yu,yw],.agg [yu,yu,yw],.agg [yu,yu,yw],.agg [yu,yu,yw],.agg [yu,yu,yw]],.agg [.agg [yu,yu,yw],.agg [yu,yu,yw],.agg [yu,yu,yw],.agg [yu,yu,yw],.agg [yu,yu,yw],.agg [yu,yu,yw],.agg [yu,yu,yw],.agg [yu,yu,yw],.agg [yu,yu,yw],.agg [yu,yu,yw],.agg [yu,yu,yw],.agg [yu,yu,yw],.agg [yu,yu,yw],.agg [yu,yu,yw]],.agg [.agg [yu,yu,yw],.agg [yu,yu,yw],.agg [yu,yu,yw],.agg [yu,yu,yw],.agg [yu,yu,yw],.agg [yu,yu,yw],.agg [yu,yu,yw],.agg [yu,yu,yw],.agg [yu,yu,yw],.agg [yu,yu,yw],.agg [yu,yu,yw],.agg [yu,yu,yw],.agg [yu,yu,yw],.agg [yu,yu,yw]],.agg [.agg [yu,yu,yw],.agg [yu,yu,yw],.agg [yu,yu,yw],.agg [yu,yu,yw],.agg [yu,yu,yw],.agg [yu,yu,yw],.agg [yu,yu,yw],.agg [yu,yu,yw],.agg [yu,yu,yw],.agg [yu,yu,yw],.agg [yu,yu,yw],.agg [yu,yu,yw],.agg [yu,yu,yw],.agg [yu,yu,yw]],.agg [.agg [yu,yu,yw],.agg [yu,yu,yw],.agg [yu,yu,yw],.agg [yu,yu,yw],.agg [yu,yu,yw],.agg [yu,yu,yw],.agg [yu,yu,yw],.agg [yu,yu,yw],.agg [yu,yu,yw],.agg [yu,yu,yw],.agg [yu,yu,yw],.agg [yu,yu,yw],.agg [yu,yu,yw],.agg [yu,yu,yw]],.agg [.agg [yu,yu,yw],.agg [yu,yu,yw],.agg [yu,yu,yw],.agg [yu,yu,yw],.agg [yu,yu,yw],.agg [yu,yu,yw],.agg [yu,yu,yw],.agg [yu,yu,yw],.agg [yu,yu,yw],.agg [yu,yu,yw],.agg [yu,yu,yw],.agg [yu,yu,yw],.agg [yu,yu,yw],.agg [yu,yu,yw]],.agg [.agg [yu,yu,yw],.agg [yu,yu,yw],.agg [yu,yu,yw],.agg [yu,yu,yw],.agg [yu,yu,yw],.agg [yu,yu,yw],.agg [yu,yu,yw],.agg [yu,yu,yw],.agg [yu,yu,yw],.agg [yu,yu,yw],.agg [yu,yu,yw],.agg [yu,yu,yw],.agg [yu,yu,yw],.agg [yu,yu,yw]]],.agg [.agg [.agg [yu,yu,yw],.agg [yu,yu,yw],.agg [yu,yu,yw],.agg [yu,yu,yw],.agg [yu,yu,yw]],.agg [.agg [yu,yu,yw],.agg [yu,yu,yw],.agg [yu,yu,yw],.agg [yu,yu,yw],.agg [yu,yu,yw]],.agg [.agg [yu,yu,yw],.agg [yu,yu,yw],.agg [yu,yu,yw],.agg [yu,yu,yw],.agg [yu,yu,yw]],.agg [.agg [yu,yu,yw],.agg [yu,yu,yw],.agg [yu,yu,yw],.agg [yu,yu,yw],.agg [yu,yu,yw]]]]]]
end
noncomputable def jY(os:Os):World:=World.laidAll Tryz.prog os Rows.reachEndsRow.laid
set_option maxRecDepth 100000 in theorem aBv(os:Os):laidMet Tryz.prog Rows.reachEndsRow.laid ((jY os).forCall (fun _ _=>0) ⟨#[],wit,[]⟩).memory:=laidMet_of_run' 8 (by kernel_rfl) (by kernel_rfl)
set_option maxRecDepth 100000 in theorem aWs(os:Os){H:Type}(enc:TypeId×Value->H):∃places,DataW.whole enc Tryz.prog ((jY os).forCall (fun _ _=>0) ⟨#[],wit,[]⟩).memory Tryz.f5.params.toList Rows.reachEndsSpec.vars false wit.toList 8=some (dat,[],places):=⟨[],by kernel_rfl⟩
set_option maxRecDepth 100000 in theorem k1:Tryz.checked.prog.inits.idxOf? 5=none:=by kernel_rfl
set_option maxRecDepth 100000 in theorem k2(os:Os):World.variablesB Tryz.checked.prog ((jY os).forCall (fun _ _=>0) ⟨#[],wit,[]⟩)=true:=by kernel_rfl
set_option maxRecDepth 100000 in theorem k3(os:Os):List.take ((begin Tryz.checked.prog (fun _ _=>0) default).world.heap.size-Tryz.checked.prog.globals.size) (List.drop Tryz.checked.prog.globals.size ((jY os).forCall (fun _ _=>0) ⟨#[],wit,[]⟩).heap.toList)=List.drop Tryz.checked.prog.globals.size (begin Tryz.checked.prog (fun _ _=>0) default).world.heap.toList:=by kernel_rfl
set_option maxRecDepth 100000 in theorem k4(os:Os):Input.okWideB Tryz.checked.prog ((jY os).forCall (fun _ _=>0) ⟨#[],wit,[]⟩) 5 ⟨#[],wit,[]⟩=true:=by kernel_rfl
set_option maxRecDepth 100000 in theorem k6(os:Os){H:Type}(enc:TypeId×Value->H):ChangeSpec.sizedB enc Tryz.checked.prog Tryz.f5 (OpenSpec.ofChange Rows.reachEndsSpec).bare false ((jY os).forCall (fun _ _=>0) ⟨#[],wit,[]⟩).memory wit 8=true:=by kernel_rfl
set_option maxRecDepth 100000 in theorem lifted(os:Os)(started:os.Started)(H:Type)(enc:TypeId×Value->H)(F:Stop.Interp):ReturnsInHanded {} Tryz.checked os 5 .any ((OpenSpec.ofChange Rows.reachEndsSpec).preRow enc Tryz.prog Tryz.f5 Rows.reachEndsRow.domain false Rows.reachEndsRow.laid) (((OpenSpec.ofChange Rows.reachEndsSpec).at F).post enc Tryz.prog Tryz.f5 false true false false):=by obtain⟨places,hx⟩:=aWs os enc;refine returnsInHanded_of_row (C:=Tryz.checked) (s:=OpenSpec.ofChange Rows.reachEndsSpec) own started k1 Tryz.func5 (witness_row_at (enc:=enc) (C:=Tryz.checked) false (jY os) wit (World.laidAll_os _ _ _) (k2 os) (k3 os) (k4 os) (OpenSpec.preRow_of_cond 8 hx (by kernel_rfl) (fun k hk=>by cases hk) (k6 os enc) (aBv os))) ?_;intro W base args ds gs before hval hW _ _ hsz hL _ _;exact contract H enc W base args ds gs before hval hW hsz hL
theorem i5{a b:Bool}(h:a=true)(h2:b=true):(a&&b)=true:=by rw[h,h2];rfl
theorem j1:(Rows.reachEndsRow.wf (OpenSpec.ofChange (OpenSpec.ofChange Rows.reachEndsSpec).bare))=true:=by kernel_rfl
theorem j2:(laidOutB Tryz.pinned.checked.prog)=true:=by kernel_rfl
theorem j3:(mapsRowed Tryz.pinned.checked.prog)=true:=by kernel_rfl
theorem j4:(Tryz.f5.params.all (Tryz.pinned.checked.prog.readableRec ·))=true:=by kernel_rfl
theorem j5:(namedTie Tryz.pinned.checked.prog Rows.reachEndsRow.named (OpenSpec.ofChange Rows.reachEndsSpec).bare.vars)=true:=by kernel_rfl
theorem j6:(Rows.reachEndsRow.stops==[])=true:=by kernel_rfl
theorem j7:(Tryz.pinned.checked.prog.stops==[])=true:=by kernel_rfl
theorem j8:(Rows.reachEndsRow.knobs==[])=true:=by kernel_rfl
theorem j9:(Tryz.pinned.checked.prog.stopKnobs==[])=true:=by kernel_rfl
theorem j10:(Rows.reachEndsRow.inPlace==Tryz.pinned.checked.prog.inPlace 5)=true:=by kernel_rfl
theorem j11:(Rows.reachEndsRow.unfollowed==Tryz.pinned.checked.prog.unfollowed 5)=true:=by kernel_rfl
theorem j12:(Rows.reachEndsRow.recurses==Tryz.pinned.checked.prog.recurses 5)=true:=by kernel_rfl
theorem j13:(Rows.reachEndsRow.named==Tryz.pinned.checked.prog.varsNamed 5)=true:=by kernel_rfl
theorem j14:(Rows.reachEndsRow.maps==(Tryz.f5.params.toList++(OpenSpec.ofChange Rows.reachEndsSpec).bare.plain.varTypes Tryz.pinned.checked.prog).any (Tryz.pinned.checked.prog.mapsRec ·))=true:=by kernel_rfl
theorem j15:(Rows.reachEndsRow.ifaces==(Tryz.f5.params.toList++(OpenSpec.ofChange Rows.reachEndsSpec).bare.plain.varTypes Tryz.pinned.checked.prog).any (Tryz.pinned.checked.prog.ifacesRec ·))=true:=by kernel_rfl
theorem j16:(Rows.reachEndsRow.mapsOut==Tryz.pinned.checked.prog.mapsAmong Tryz.f5.resultTypes.toList)=true:=by kernel_rfl
theorem j17:(Rows.reachEndsRow.loops==(Tryz.f5.params.toList++(OpenSpec.ofChange Rows.reachEndsSpec).bare.plain.varTypes Tryz.pinned.checked.prog).any (Tryz.pinned.checked.prog.loopsFrom ·))=true:=by kernel_rfl
theorem j18:(Rows.reachEndsRow.wideKeys==(Tryz.f5.params.toList++(OpenSpec.ofChange Rows.reachEndsSpec).bare.plain.varTypes Tryz.pinned.checked.prog++Tryz.f5.resultTypes.toList).any (Tryz.pinned.checked.prog.wideKeysFrom ·))=true:=by kernel_rfl
theorem j19:((OpenSpec.ofChange Rows.reachEndsSpec).bare.vars.all (Tryz.pinned.checked.prog.varReadable ·))=true:=by kernel_rfl
theorem j20:(Tryz.f5.resultTypes.all (fun t=>Tryz.pinned.checked.prog.readableRec t&&decide (t<Tryz.pinned.checked.prog.types.size)))=true:=by kernel_rfl
theorem j21:(Rows.reachEndsRow.ifacesOut==Tryz.f5.resultTypes.toList.any (Tryz.pinned.checked.prog.ifacesRec ·))=true:=by kernel_rfl
theorem j22:(Rows.reachEndsRow.loopsOut==Tryz.f5.resultTypes.toList.any (Tryz.pinned.checked.prog.loopsFrom ·))=true:=by kernel_rfl
theorem j23:(Rows.reachEndsRow.plainKeys==Tryz.pinned.checked.prog.plainKeys)=true:=by kernel_rfl
theorem j24:(Rows.reachEndsRow.shortTexts.isNone)=true:=by kernel_rfl
theorem j25:(Tryz.pinned.checked.prog.stopsHeard)=true:=by kernel_rfl
theorem j26:(Tryz.pinned.checked.prog.mayEnter)=true:=by kernel_rfl
theorem j27:(Rows.reachEndsRow.lifted==Tryz.pinned.checked.prog.liftsFinal)=true:=by kernel_rfl
theorem j28:(Tryz.pinned.checked.prog.make==some Rows.reachEndsRow.make)=true:=by kernel_rfl
theorem j29:(Rows.reachEndsRow.kinds==(if Rows.reachEndsRow.domain.isEmpty then[]else Tryz.f5.params.toList.map fun t=>match Tryz.pinned.checked.prog.underlying t with|some (.int k)=>some k|_=>none))=true:=by kernel_rfl
theorem j30:(Rows.reachEndsRow.pinned==Rows.reachEndsRow.pinnedBy)=true:=by kernel_rfl
theorem j31:(Rows.reachEndsRow.veiled==(Tryz.f5.params.toList++(OpenSpec.ofChange Rows.reachEndsSpec).bare.plain.varTypes Tryz.pinned.checked.prog++Tryz.f5.resultTypes.toList).any (Tryz.pinned.checked.prog.veiledRec ·))=true:=by kernel_rfl
theorem j32:(Rows.reachEndsRow.veiledFits Tryz.pinned.checked.prog Tryz.f5.params.toList (Tryz.f5.params.toList++(OpenSpec.ofChange Rows.reachEndsSpec).bare.plain.varTypes Tryz.pinned.checked.prog++Tryz.f5.resultTypes.toList))=true:=by kernel_rfl
set_option maxRecDepth 100000 in theorem closed:joinedFacts Tryz.pinned.checked.prog 5 Tryz.f5 (OpenSpec.ofChange Rows.reachEndsSpec).bare Rows.reachEndsRow=true:=i5 (i5 (i5 (i5 (i5 (i5 (i5 (i5 (i5 (i5 (i5 (i5 (i5 (i5 (i5 (i5 (i5 (i5 (i5 (i5 (i5 (i5 (i5 (i5 (i5 (i5 (i5 (i5 (i5 (i5 (i5 j1 j2) j3) j4) j5) j6) j7) j8) j9) j10) j11) j12) j13) j14) j15) j16) j17) j18) j19) j20) j21) j22) j23) j24) j25) j26) j27) j28) j29) j30) j31) j32
theorem said:Rows.ReachEndsSaid:=OpenClaim.holds_of_cond 5 Tryz.f5 rfl rfl rfl rfl rfl rfl rfl ⟨rfl,rfl,rfl,rfl,rfl⟩ rfl rfl rfl rfl rfl (by kernel_rfl) Tryz.func5 closed (of_decide_eq_true (by kernel_rfl)) (by unfold Func.isWrapper;first|(rw[if_pos (by decide+kernel)];kernel_rfl)|(rw[if_neg (by decide+kernel)];exact⟨rfl,rfl⟩)) (fun os started H enc _ F=>by rw[OpenClaim.pre_eq_preRow];exact lifted os started H enc F)
