/- The statement PacketParsesCardSaid: whatever the bytes, the law returns true, and its arguments read as they did; the listed variables are tied to the program's text. -/
import Derived.Test.YtkgjbipfhhjlpaaGreatDoorMb30
import Derived.Test.YtkgjbipfhhjlpaaGreatDoorMb31
import Derived.Test.YtkgjbipfhhjlpaaGreatDoorCards
set_option linter.unusedVariables false
set_option linter.unusedSimpArgs false
set_option maxRecDepth 100000
set_option maxHeartbeats 32000000
namespace Go.Proofs.YtkgjbipfhhjlpaaGreatDoor.lawPacketParses
open Go.ChangeShapes Go.WideShapes Go.ChangeAt Go.RowKit Go.Joins
theorem lifted (os:Os)(started:os.Started)(H:Type)(enc:TypeId×Value→H):
 ReturnsInHanded {} Tryz.checked os 3 .any (fun w args=>(Rows.packetParsesSpec.pre enc Tryz.prog Tryz.f3 [] false w args∧laidMetH Tryz.prog Jai w)∧sizedMet enc Tryz.prog Tryz.f3 (OpenSpec.ofChange Rows.packetParsesSpec) false w args)
  (Rows.packetParsesSpec.post enc Tryz.prog Tryz.f3 false true false false):=by
 refine JgJ (C:=Tryz.checked) (X:=fun w _=>laidMetH Tryz.prog Jai w) (fun _ _ _ hh h=>h.of_heap hh) own started (by kernel_rfl) Tryz.func3
  (ChangeSpec.witness_shaped (enc:=enc) (C:=Tryz.checked) (os:=os) (X:=fun w _=>laidMetH Tryz.prog Jai w) false (World.laidAll Tryz.prog os Jai) #[.slice none 0 0] 8 (World.laidAll_os _ _ _)
    (World.shaped_of_ZipB (by kernel_rfl) (by kernel_rfl)) (by kernel_rfl) (by kernel_rfl) (by kernel_rfl) (Jm8 os _)) ?_
 intro W base args ds gs before hval0 hW hL hsh
 have hval:∀(j:Nat) t v,Tryz.f3.params[j]? =some t→args[j]? =some v→Value.okWide Tryz.prog W .any base t v:=hval0
 have hW':=hW
 obtain⟨p,q,hA0,hV,rfl,hfz,hnd⟩:=hW
 have hA:DataW.TrodAll enc Tryz.prog W 0 (fun _=>true) true Tryz.f3.params.toList args.toList ds p:=hA0
 rw[Tryz.params3] at hA hval
 have lt:∀x∈p,x.block<W.heap.size:=Jo6 hA
 have stays:=fun W' (bel:Below W.heap.size W W')=>JbL JnQ (by intro t ht;simp only[List.mem_cons,List.not_mem_nil,or_false] at ht;obtain rfl:=ht<;>exact⟨by kernel_rfl,of_decide_eq_true (by kernel_rfl)⟩) hA bel lt
 obtain⟨v0,d0,rfl,rfl,h0⟩:=trodAll_one hA
 obtain⟨rfl,rfl⟩:=trodVars_none hV
 obtain⟨oa0,n0,c0,rfl⟩:=okWide_slice Tryz.underlying22 (hval 0 22 v0 rfl rfl)
 obtain⟨l0,hl0⟩:=JjK Tryz.underlying22 (by kernel_rfl) Tryz.underlying5 h0
 clear hA0 hval0
 refine Jpc (JkK oa0 n0 c0 l0 W hl0 (Jjf hL hsh)) fun e W' ⟨he,bel⟩=>?_
 subst he
 exact⟨_,rfl,_,_,_,[],_,[],hW',trodAll_mk1 (shut_bool Tryz.underlying4 _),stays _ bel,rfl,bel.frame _,fun h=>by cases h⟩
theorem JoZ:Rows.PacketParsesSaid:=
 OpenClaim.holds_of_wide 3 Tryz.f3 rfl rfl rfl rfl rfl rfl rfl ⟨rfl,rfl,rfl,rfl,rfl⟩ rfl rfl rfl rfl rfl (by kernel_rfl) Tryz.func3 (by kernel_rfl)
  (of_decide_eq_true (by kernel_rfl)) (by unfold Func.isWrapper;first|(rw[if_pos (by decide+kernel)];kernel_rfl)|(rw[if_neg (by decide+kernel)];exact⟨rfl,rfl⟩))
  (fun os started H enc _=>lifted os started H enc)
theorem proved:Rows.PacketParsesCardSaid:=
 Claim7.holds_tied_plain_at .later [] [.data,.data,.data,.data,.sentinel,.sentinel,.pinned] true Rows.packetParsesCard.stood.harness true JoZ (fun _ h=>by cases h) (by kernel_rfl) (fun _ h=>by cases h) packetParses_row_tie rfl ⟨rfl,rfl⟩ (by kernel_rfl) rfl
  (fun f fn hf hfn=>by
    obtain rfl:f=3:=Option.some.inj ((show Tryz.prog.funcNamed "octroi/octroilaw08.PacketParses"=some 3 by kernel_rfl).symm.trans hf) |>.symm
    obtain rfl:fn=Tryz.f3:=(Option.some.inj (Tryz.func3.symm.trans hfn)).symm
    exact⟨by kernel_rfl,fun j t ht=>by
     rw[Tryz.params3] at ht
     have hm:t∈[22]:=by simpa using Array.mem_of_getElem? ht
     have hall:([22].all fun u=>!Tryz.prog.wantsStandIn u)=true:=by kernel_rfl
     exact(show Tryz.prog.wantsStandIn t=false by simpa using List.all_eq_true.1 hall t hm)⟩)
  (by kernel_rfl)
#print axioms proved
end Go.Proofs.YtkgjbipfhhjlpaaGreatDoor.lawPacketParses
