/- The statement PacketKnownCardSaid: a closed statement, the law returns true, and its arguments read as they did; the listed variables are tied to the program's text. -/
import Derived.Test.YtkgjbipfhhjlpaaGreatDoorMq30
import Derived.Test.YtkgjbipfhhjlpaaGreatDoorCards
set_option linter.unusedVariables false
set_option linter.unusedSimpArgs false
set_option maxRecDepth 100000
set_option maxHeartbeats 32000000
namespace Go.Proofs.YtkgjbipfhhjlpaaGreatDoor.lawPacketKnown
open Go.ChangeShapes Go.WideShapes Go.ChangeAt Go.RowKit Go.Joins
theorem lifted (os:Os)(u:os.Started)(r:Type)(enc:TypeId×Value->r):
 ReturnsInHanded {} Tryz.checked os 8 .any (λw a=>(Rows.packetKnownSpec.pre enc Tryz.prog Tryz.f8 [] false w a/\laidMetH Tryz.prog BR w)/\sizedMet enc Tryz.prog Tryz.f8 (OpenSpec.ofChange Rows.packetKnownSpec) false w a)
  (Rows.packetKnownSpec.post enc Tryz.prog Tryz.f8 false true false false):=by
 refine KS (C:=Tryz.checked) (X:=λw _=>laidMetH Tryz.prog BR w) (λ_ _ _ z h=>h.of_heap z) own u (by kernel_rfl) Tryz.func8
  (ChangeSpec.witness_shaped (enc:=enc) (C:=Tryz.checked) (os:=os) (X:=λw _=>laidMetH Tryz.prog BR w) false (World.laidAll Tryz.prog os BR) #[] 8 (World.laidAll_os _ _ _)
    (World.shaped_of_ZipB (by kernel_rfl) (by kernel_rfl)) (by kernel_rfl) (by kernel_rfl) (by kernel_rfl) (TJ os _)) ?_
 intro b F a I P S n j G L;have s:∀(J:Nat) t v,Tryz.f8.params[J]? =some t->a[J]? =some v->Value.okWide Tryz.prog b .any F t v:=n;have y:=j;obtain⟨p,q,o,N,rfl,T,Q⟩:=j;have g:DataW.TrodAll enc Tryz.prog b 0 (λ_=>true) true Tryz.f8.params.toList a.toList I p:=o;rw[Tryz.params8] at g s;have B:∀x∈p,x.block<b.heap.size:=WA g;have A:=λl (d:Below b.heap.size b l)=>DD UO (by intro t E;cases E) g d B
 obtain⟨R,rfl,rfl⟩:=trodAll_nil g;obtain rfl:a=#[]:=by cases a;simp_all
 obtain⟨rfl,rfl⟩:=trodVars_none N;clear o n;refine Jb (PR b (NW G L)) λe l ⟨M,d⟩=>?_
 subst M;exact⟨_,rfl,_,_,_,[],_,[],y,trodAll_mk1 (shut_bool Tryz.underlying4 _),A _ d,rfl,d.frame _,λh=>by cases h⟩
theorem Wu:Rows.PacketKnownSaid:=
 OpenClaim.holds_of_wide 8 Tryz.f8 rfl rfl rfl rfl rfl rfl rfl ⟨rfl,rfl,rfl,rfl,rfl⟩ rfl rfl rfl rfl rfl (by kernel_rfl) Tryz.func8 (by kernel_rfl)
  (of_decide_eq_true (by kernel_rfl)) (by unfold Func.isWrapper;first|(rw[if_pos (by decide+kernel)];kernel_rfl)|(rw[if_neg (by decide+kernel)];exact⟨rfl,rfl⟩))
  (λb a d e _=>lifted b a d e)
theorem proved:Rows.PacketKnownCardSaid:=
 Claim7.holds_tied_plain_at .later [] [.data,.data,.data,.data,.sentinel,.sentinel,.pinned] true Rows.packetKnownCard.stood.harness true Wu (λ_ h=>by cases h) (by kernel_rfl) (λ_ h=>by cases h) packetKnown_row_tie rfl ⟨rfl,rfl⟩ (by kernel_rfl) rfl
  (λf b d e=>by
    obtain rfl:f=8:=Option.some.inj ((show Tryz.prog.funcNamed "octroi/octroilaw08.PacketKnown"=some 8 by kernel_rfl).symm.trans d) |>.symm;obtain rfl:b=Tryz.f8:=(Option.some.inj (Tryz.func8.symm.trans e)).symm
    exact⟨by kernel_rfl,λJ t a=>by
     rw[Tryz.params8] at a;simp at a⟩)
  (by kernel_rfl)
#print axioms proved
end Go.Proofs.YtkgjbipfhhjlpaaGreatDoor.lawPacketKnown
