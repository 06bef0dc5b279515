/-
  Own work: walks and laws of the functions that the statement reaches; the statement itself stands in the last text.
-/
import Derived.Test.YtncphnpndkjkaaaGreatDoorHv
namespace Go.Proofs.YtncphnpndkjkaaaGreatDoor
open Go.E Go.ChangeShapes Go.WideShapes Go.ChangeAt Go.RowKit
set_option linter.all false
set_option maxRecDepth 100000
set_option maxHeartbeats 16000000
theorem own:ownKnob Tryz.prog.godebug=none:=by kernel_rfl
theorem laidOut:laidOutB Tryz.prog=true:=by kernel_rfl
def plainV:List (String × DataW Unit):=[("unicode/utf8.acceptRanges",Rows.laid_unicode_utf8_acceptRanges),("unicode/utf8.first",Rows.laid_unicode_utf8_first)]
noncomputable def witW (os:Os):World:=(World.holding Tryz.prog os ⟨#[],#[],[]⟩).layVars Tryz.prog plainV
theorem witW_os (os:Os):(witW os).os=os:=World.layVars_os _ _ _
theorem witW_met (os:Os) (args:Array Value):laidMetH Tryz.prog laidL ((witW os).forCall (fun _ _=>0) ⟨#[],args,[]⟩).memory:=by
 unfold laidMetH;rw[handL];have e1:(plainV.filter fun x=>(plainV.map (·.1)).contains x.1)=plainV:=by kernel_rfl
 have e2:(plainV.filter fun x=>!(plainV.map (·.1)).contains x.1)=[]:=by kernel_rfl
 have h:laidMet Tryz.prog plainV (witW os):=laidMet_layVars (w0:=World.holding Tryz.prog os ⟨#[],#[],[]⟩) (plainV.map (·.1)) [] (by rw[e1];rfl) (by rw[e1];kernel_rfl) (by rw[e1];kernel_rfl) (by rw[e2];exact LaidIn.none);exact h.of_heap (by simp[World.memory,World.forCall,Input.heap])
section
variable {H:Type} {enc:TypeId × Value→H} {W:World} {base:Nat} {sp:Nat→Bool} {held:Bool}
def edV (e:Ed):List Value:=[.int .i64 e.at_,.int .i64 e.n,.string ⟨e.w.toArray⟩]
theorem und43:Tryz.prog.underlying 43=some (.struct (Tryz.prog.fieldsOf 43)):=by kernel_rfl
theorem dec43 {n:Nat} {cs:List Value} {x:DataW H × List MemPlace} (h:DataW.trod enc Tryz.prog W base sp held n 43 cs=some x):∃ e:Ed,cs=edV e∧e.ok:=by
 obtain ⟨xs,m,-,-,hl,hsz,hp⟩:=DataW.trod_struct und43 h;rw[show Tryz.prog.cellsOf 43=3 by kernel_rfl] at hl
 rw[show (Tryz.prog.fieldsOf 43).size=3 by kernel_rfl] at hsz
 match cs,hl,xs,hsz with
 | [c0,c1,c2],_,[x0,x1,x2],_=>
   have g0:∃ f:Go.Field,(Tryz.prog.fieldsOf 43)[0]? = some f∧f.offset=0∧f.type=3:=⟨_,rfl,by kernel_rfl,by kernel_rfl⟩;have g1:∃ f:Go.Field,(Tryz.prog.fieldsOf 43)[1]? = some f∧f.offset=1∧f.type=3:=⟨_,rfl,by kernel_rfl,by kernel_rfl⟩;have g2:∃ f:Go.Field,(Tryz.prog.fieldsOf 43)[2]? = some f∧f.offset=2∧f.type=9:=⟨_,rfl,by kernel_rfl,by kernel_rfl⟩;obtain ⟨f0,a0,b0,d0⟩:=g0;obtain ⟨f1,a1,b1,d1⟩:=g1;obtain ⟨f2,a2,b2,d2⟩:=g2;have h0:=hp 0 f0 a0;have h1:=hp 1 f1 a1;have h2:=hp 2 f2 a2;rw[b0,d0,show Tryz.prog.cellsOf 3=1 by kernel_rfl] at h0
   rw[b1,d1,show Tryz.prog.cellsOf 3=1 by kernel_rfl] at h1
   rw[b2,d2,show Tryz.prog.cellsOf 9=1 by kernel_rfl] at h2
   obtain ⟨z0,e0,-,k0⟩:=DataW.trod_int Tryz.underlying3 h0;obtain ⟨z1,e1,-,k1⟩:=DataW.trod_int Tryz.underlying3 h1;obtain ⟨s2,e2,-,-⟩:=DataW.trod_string Tryz.underlying9 h2;simp only[Lit.wf,Bool.and_eq_true,decide_eq_true_eq] at k0 k1
   obtain rfl:c0=_:=(List.cons.inj e0).1;obtain rfl:c1=_:=(List.cons.inj e1).1;obtain rfl:c2=_:=(List.cons.inj e2).1;exact ⟨⟨z0,z1,s2.data.toList⟩,by simp[edV],⟨k0.1,k0.2⟩,k1.1,k1.2⟩
theorem editsIn {bb:Nat} {v:Value} {d:DataW H} {ps:List MemPlace} (h:Value.okWide Tryz.prog W .any bb 22 v) (hd:DataW.Trod enc Tryz.prog W base (fun _=>true) held 22 v d ps):∃ l:List Ed,(∀ e∈l,e.ok)∧SlIn W v 3 l.length (xWR l):=by
 obtain ⟨fuel,hf⟩:=hd;have hc:=xVW (by rw[Tryz.underlying22];trivial) h;have hv:v.cells.toList=[v]:=by
  have hc2:=hc;simp only[Cell.okWide,Tryz.underlying22] at hc2
  cases v<;>simp_all [Cell.ok,Value.cells]
 rw[hv] at hf
 obtain ⟨l,ds,e1,e2,e3,e4⟩:=slIn edV edE (fun m _=>m.ok) (show Tryz.prog.underlying 22=some (.slice 43) by kernel_rfl) (show Tryz.prog.cellsOf 43=3 by kernel_rfl) (by decide) (fun ρ m=>by simp[edV,edE,VR,VRs]) (fun n cs y h=>dec43 h) hc hf;refine ⟨l,fun e he=>?_,e3⟩;obtain ⟨i,hi⟩:=List.getElem?_of_mem he;have hil:=(List.getElem?_eq_some_iff.1 hi).1;exact e2 i e ds[i] hi (List.getElem?_eq_getElem (by omega))
end
theorem yJV (os:Os) (started:os.Started) (H:Type) (enc:TypeId × Value→H) :
  ReturnsInHanded {} Tryz.checked os 3 .any (fun w args=>(Rows.bodyWholeSpec.pre enc Tryz.prog Tryz.f3 [] false w args∧laidMetH Tryz.prog laidL w)∧sizedMet enc Tryz.prog Tryz.f3 (OpenSpec.ofChange Rows.bodyWholeSpec) false w args)
   (Rows.bodyWholeSpec.post enc Tryz.prog Tryz.f3 false true false false):=by
 refine returnsInHanded_of_change_and (C:=Tryz.checked) (X:=fun w _=>laidMetH Tryz.prog laidL w) (fun _ _ _ hh h=>h.of_heap hh) own started (by kernel_rfl) Tryz.func3
  (ChangeSpec.witness_shaped (enc:=enc) (C:=Tryz.checked) (os:=os) (X:=fun w _=>laidMetH Tryz.prog laidL w) false (witW os) #[.slice none 0 0] 8 (witW_os os)
   (World.shaped_of_ZipB (by kernel_rfl) (by kernel_rfl)) (by kernel_rfl) (by kernel_rfl) (by kernel_rfl) (witW_met os _)) ?_
 intro W base args ds gs before hval0 hW _ _ hL _;have hval:∀ (j:Nat) t v,Tryz.f3.params[j]? = some t→args[j]? = some v→Value.okWide Tryz.prog W .any base t v:=hval0;have hW':=hW;obtain ⟨p,q,hA0,hV,rfl,hfz,hnd⟩:=hW;have hA:DataW.TrodAll enc Tryz.prog W 0 (fun _=>true) true Tryz.f3.params.toList args.toList ds p:=hA0;rw[Tryz.params3] at hA hval
 have hstay:=hA;obtain ⟨v0,vs0,d0,ds0,p0,q0,hargs,rfl,rfl,h0,r0⟩:=trodAll_cons hA;obtain ⟨rfl,rfl,rfl⟩:=trodAll_nil r0;obtain rfl:args = #[v0]:=by cases args;simp_all
 obtain ⟨rfl,rfl⟩:=trodVars_none hV;obtain ⟨eds,o1,s1⟩:=editsIn (hval 0 22 v0 rfl rfl) h0;obtain ⟨t,u,hg⟩:=xQN hL;refine (xZK [xQD t,gAcc u] ⟨⟨t,by simp⟩,⟨u,by simp⟩⟩ o1 hg v0 s1).mono fun e W' ⟨he,bel⟩=>?_
 subst he;exact ⟨_,rfl,_,_,_,[],_,[],hW',trodAll_mk1 (shut_bool Tryz.underlying4 _),xXY laidOut bel hstay (by intro t ht;simp at ht;subst ht;exact ⟨by kernel_rfl,of_decide_eq_true (by kernel_rfl)⟩),rfl,bel.frame _,fun h=>by cases h⟩
theorem ySB:Rows.bodyWholeRow.holds Tryz.pinned (OpenSpec.ofChange Rows.bodyWholeSpec):=
 OpenClaim.holds_of_wide 3 Tryz.f3 rfl rfl rfl rfl rfl rfl rfl ⟨rfl,rfl,rfl,rfl,rfl⟩ rfl rfl rfl rfl rfl (by kernel_rfl) Tryz.func3 (by kernel_rfl)
  (of_decide_eq_true (by kernel_rfl)) (by unfold Func.isWrapper;(rw[if_neg (by decide +kernel)];exact ⟨rfl,rfl⟩))
  (fun os started H enc _=>yJV os started H enc)
theorem bodyWhole_card:Rows.BodyWholeCardSaid:=
 Claim7.holds_tied_plain_at .later [] [.data,.pinned] true (true,"f90e15b98772ad83d5388d7e70fbe48c7830e650295f893f8678c772cda32c7c") false ySB (fun _ h=>by cases h) (by kernel_rfl) (fun _ h=>by cases h) bodyWhole_row_tie rfl ⟨rfl,rfl⟩ (by kernel_rfl) rfl
  (fun f fn hf hfn=>by
   obtain rfl:f=3:=Option.some.inj ((show Tryz.prog.funcNamed "vellum/vellumlaw18.BodyWhole" = some 3 by kernel_rfl).symm.trans hf) |>.symm;obtain rfl:fn=Tryz.f3:=(Option.some.inj (Tryz.func3.symm.trans hfn)).symm;exact ⟨by kernel_rfl,fun j t ht=>by
    rw[Tryz.params3] at ht
    have hm:t∈[22]:=by simpa using Array.mem_of_getElem? ht
    have hall:([22].all fun u=>!Tryz.prog.wantsStandIn u)=true:=by kernel_rfl
    exact (show Tryz.prog.wantsStandIn t=false by simpa using List.all_eq_true.1 hall t hm)⟩)
  (by kernel_rfl)
end Go.Proofs.YtncphnpndkjkaaaGreatDoor
