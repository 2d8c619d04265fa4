import Derived.Test.YtkgjbipfhhjlpaaGreatDoorMf24
import Derived.Test.YtkgjbipfhhjlpaaGreatDoorTie
import Derived.LaidMore
import Derived.Lay
import Derived.SevenTiedAt
import Derived.Stop.LaidErr
import Derived.HandedShaped
set_option linter.unusedVariables false
set_option linter.unusedSimpArgs false
set_option maxRecDepth 100000
set_option maxHeartbeats 32000000
namespace Go.Proofs.YtkgjbipfhhjlpaaGreatDoor
section
open Go.RowKit
def Jb0 (w:World)(X Y:List Int):Ending→World→Prop:=fun e w'=>∃o1 c1 o2 c2,e=.returned (.tuple #[.slice o1 X.length c1,.slice o2 Y.length c2])∧Jj w' o1 X.length c1 X∧Jj w' o2 Y.length c2 Y∧Below w.heap.size w w'
theorem Jk8 (S T:Nat→Int)(p:Int)(hS:U8 S)(hT:U8 T)(hp:0≤p∧p<256)(tot:Int)(mf:Bool)(fr:Int):Jm (J8 ⟨0,tot,0,false,mf,fr,64,p,Ja false S,Ja false T,[]⟩):=by
 unfold J8 JQ
 refine Je (Je (Je (Je (Je (Je ?_ (Jt _)) (Jt _)) (Jt _)) ?_) (Jt _)) (Je (Je (JH hS _) (JH hT _)) (fun v hv=>by cases hv))
 ·intro v hv
  simp only[List.mem_cons,List.not_mem_nil,or_false,List.length_nil] at hv
  rcases hv with rfl|rfl<;>decide
 ·intro v hv
  simp only[List.mem_cons,List.not_mem_nil,or_false] at hv
  rcases hv with rfl|rfl
  ·decide
  ·exact hp
theorem Bx.cellSet {W w:World}{fs:List (Nat×Obj)}{b:Nat}{cs:Array Value}{t:TypeId}(h:Bx W w ((b,.cells cs t (0,0))::fs))(k:Nat)(v:Value)(hb:W.heap.size≤b)(hne:∀p∈fs,p.1≠b):Bx W (w.setCell ⟨b,k,none⟩ v) ((b,.cells (cs.setIfInBounds k v) t (0,0))::fs):=by
 refine⟨fun c o hm=>?_,h.out.setCell hb _⟩
 rcases List.mem_cons.1 hm with e|hm
 ·cases e;exact heap_setCell_same _ b k cs t v (h.at 0 rfl)
 ·exact(Below.heap_setCell _ _ _ _ (hne _ hm)).trans (h.all c o (List.mem_cons_of_mem _ hm))
theorem JiV (S T:Nat→Int)(p:Int)(body:List Int)(cut:Nat)(hS:U8 S)(hT:U8 T)(hp:0≤p∧p<256)(hb:Jm body)(h8:8≤cut)(hm:cut%8=0)(hc:cut<body.length)(hlen:20+body.length≤2048)
 (oa:Option Addr)(n cap:Nat)(w:World)(hr:Jj w oa n cap (J8 ⟨0,20+(body.length:Int),0,false,false,0,64,p,Ja false S,Ja false T,[]⟩++body)):
 Calls Tryz.prog 20 #[.slice oa n cap,.int .i64 20,.int .i64 (cut:Int)] w (Jb0 w (J8 ⟨0,20+(cut:Int),0,false,true,0,64,p,Ja false S,Ja false T,[]⟩++body.take cut) (J8 ⟨0,20+((body.length-cut:Nat):Int),0,false,false,((cut/8:Nat):Int),64,p,Ja false S,Ja false T,[]⟩++body.drop cut)):=by
 have HR:=Jnv hr
 have HOL0:Hid (0<n→∀a,oa=some a→a.block<w.heap.size):=Jnv (fun h=>hr.lt h)
 have hn:n=20+body.length:=by rw[←hr.len,List.length_append,JaK _ (Ji _ _) (Ji _ _) rfl]
 obtain⟨e1,e2,e3⟩:=Jk7 S T (20+(body.length:Int)) p body rfl (by omega) _ rfl
 have HPA:Hid (∀w',Jj w' oa n cap (J8 ⟨0,20+(body.length:Int),0,false,false,0,64,p,Ja false S,Ja false T,[]⟩++body)→Calls Tryz.prog 52 #[.slice oa n cap] w' (fun e w2=>∃ob cb,e=.returned (.tuple #[.agg #[.int .u8 0,.int .u16 (20+(body.length:Int)),.int .u16 0,.bool false,.bool false,.int .u16 0,.int .u8 64,.int .u8 p,.int .u8 (S 0),.int .u8 (S 1),.int .u8 (S 2),.int .u8 (S 3),.int .u8 (T 0),.int .u8 (T 1),.int .u8 (T 2),.int .u8 (T 3),.slice ob 0 cb],.int .i64 20,.int .i64 0])∧JI w2 w'.heap.size 1 ob 0 cb []∧Below w'.heap.size w' w2)):=Jnv fun w' g=>by
  refine(Jbm oa n cap _ w' g (by omega)).mono ?_
  rintro e w2 (⟨h,-⟩|⟨-,ob,cb,rfl,ho,hb⟩)
  ·exact absurd e1 h
  ·rw[e2] at ho
   refine⟨ob,cb,?_,?_,hb⟩
   ·rw[e3 ob cb,e2];rfl
   ·simpa using ho
 have HX1:Hid (∀ob cb w',Jj w' ob 0 cb []→(∀a,ob=some a→a.block<w'.heap.size)→Calls Tryz.prog 53 #[.agg #[.int .u8 0,.int .u16 (20+(cut:Int)),.int .u16 0,.bool false,.bool true,.int .u16 0,.int .u8 64,.int .u8 p,.int .u8 (S 0),.int .u8 (S 1),.int .u8 (S 2),.int .u8 (S 3),.int .u8 (T 0),.int .u8 (T 1),.int .u8 (T 2),.int .u8 (T 3),.slice ob 0 cb]] w' (Jq w' (J8 ⟨0,20+(cut:Int),0,false,true,0,64,p,Ja false S,Ja false T,[]⟩) 0)):=Jnv fun ob cb w' g ga=>by
  have hx:Xi ⟨0,20+(cut:Int),0,false,true,0,64,p,Ja false S,Ja false T,[]⟩=true:=by unfold Xi;simp;omega
  have h:=Jdl ⟨0,20+(cut:Int),0,false,true,0,64,p,Ja false S,Ja false T,[]⟩ ob cb w' ⟨(show(0:Int)≤0∧(0:Int)<256 by decide),⟨by show 0≤20+(cut:Int);omega,by show 20+(cut:Int)<65536;omega⟩,(show(0:Int)≤0∧(0:Int)<65536 by decide),(show(0:Int)≤0∧(0:Int)<65536 by decide),(show(0:Int)≤64∧(64:Int)<256 by decide),hp,⟨Ji _ _,JH hS _⟩,⟨Ji _ _,JH hT _⟩,fun v hv=>by cases hv⟩ g ga hx
  unfold Jdk Z5 at h
  rw[hx] at h
  exact h
 have HX2:Hid (∀ob cb w',Jj w' ob 0 cb []→(∀a,ob=some a→a.block<w'.heap.size)→Calls Tryz.prog 53 #[.agg #[.int .u8 0,.int .u16 (20+((body.length-cut:Nat):Int)),.int .u16 0,.bool false,.bool false,.int .u16 ((cut/8:Nat):Int),.int .u8 64,.int .u8 p,.int .u8 (S 0),.int .u8 (S 1),.int .u8 (S 2),.int .u8 (S 3),.int .u8 (T 0),.int .u8 (T 1),.int .u8 (T 2),.int .u8 (T 3),.slice ob 0 cb]] w' (Jq w' (J8 ⟨0,20+((body.length-cut:Nat):Int),0,false,false,((cut/8:Nat):Int),64,p,Ja false S,Ja false T,[]⟩) 0)):=Jnv fun ob cb w' g ga=>by
  have hx:Xi ⟨0,20+((body.length-cut:Nat):Int),0,false,false,((cut/8:Nat):Int),64,p,Ja false S,Ja false T,[]⟩=true:=by unfold Xi;simp;omega
  have h:=Jdl ⟨0,20+((body.length-cut:Nat):Int),0,false,false,((cut/8:Nat):Int),64,p,Ja false S,Ja false T,[]⟩ ob cb w' ⟨(show(0:Int)≤0∧(0:Int)<256 by decide),⟨by show 0≤20+((body.length-cut:Nat):Int);omega,by show 20+((body.length-cut:Nat):Int)<65536;omega⟩,(show(0:Int)≤0∧(0:Int)<65536 by decide),⟨by show(0:Int)≤((cut/8:Nat):Int);omega,by show((cut/8:Nat):Int)<65536;omega⟩,(show(0:Int)≤64∧(64:Int)<256 by decide),hp,⟨Ji _ _,JH hS _⟩,⟨Ji _ _,JH hT _⟩,fun v hv=>by cases hv⟩ g ga hx
  unfold Jdk Z5 at h
  rw[hx] at h
  exact h
 have BX0:=Jnv (Bx.start w)
 have HBA:Hid ((∀tot mf fr,Jm (J8 ⟨0,tot,0,false,mf,fr,64,p,Ja false S,Ja false T,[]⟩))∧Jm body):=Jnv ⟨fun a b c=>Jk8 S T p hS hT hp a b c,hb⟩
 obtain⟨q,hq⟩:∃q:Int,((cut/8:Nat):Int)=q:=⟨_,rfl⟩
 obtain⟨tt,htt⟩:∃q:Int,20+((body.length-cut:Nat):Int)=q:=⟨_,rfl⟩
 rw[hq,htt] at HX2⊢
 have HQ:=Jnv hq
 have HT:=Jnv htt
 clear hq htt
 have HN:=Jnv hn
 have HM:=Jnv (And.intro h8 hm)
 have HC:=Jnv (And.intro hc hlen)
 clear e1 e2 e3 hn h8 hm hr hb
 have HLD:Hid (((J8 ⟨0,20+(body.length:Int),0,false,false,0,64,p,Ja false S,Ja false T,[]⟩++body)).drop 20=body):=Jnv (List.drop_left' (JaK _ (Ji _ _) (Ji _ _) rfl))
 generalize hLL:(J8 ⟨0,20+(body.length:Int),0,false,false,0,64,p,Ja false S,Ja false T,[]⟩++body)=L at*
 clear hLL
 go_enter Tryz.func20,Tryz.ntmps20
 go_wp2_with fail
 refine Jnx (HPA.out _ HR.out) ?_
 rintro e z1 ⟨ob,cb,rfl,hob,hbz⟩
 have BX1:=Jnv ((BX0.out.go hbz).box (JnZ (.int .u16 (20+(body.length:Int))) false false (64:Int) p (.slice ob 0 cb) S T) 113)
 have HOB:=Jnv hob
 clear hob HPA
 have hge:=hbz.size
 obtain⟨b8,hb8⟩:∃b,b=z1.heap.size:=⟨_,rfl⟩
 have hw1:IntKind.i64.wrap (20+(cut:Int))=20+(cut:Int):=by rw[IntKind.wrap_i64];omega
 have hw2:IntKind.u16.wrap (20+(cut:Int))=20+(cut:Int):=by rw[IntKind.wrap_u16];omega
 go_wp2_with fail
 have BX2:Hid (Bx w (z1.alloc (.cells (JnZ (.int .u16 (20+(cut:Int))) false true (64:Int) p (.slice ob 0 cb) S T) 113)) [(z1.heap.size,.cells (JnZ (.int .u16 (20+(cut:Int))) false true (64:Int) p (.slice ob 0 cb) S T) 113 (0,0))]):=Jnv ((BX0.out.go hbz).box (JnZ (.int .u16 (20+(cut:Int))) false true (64:Int) p (.slice ob 0 cb) S T) 113)
 have HOB2:Hid (Jj (z1.alloc (.cells (JnZ (.int .u16 (20+(cut:Int))) false true (64:Int) p (.slice ob 0 cb) S T) 113)) ob 0 cb []∧∀a,ob=some a→a.block<(z1.alloc (.cells (JnZ (.int .u16 (20+(cut:Int))) false true (64:Int) p (.slice ob 0 cb) S T) 113)).heap.size):=Jnv ⟨(HOB.out.below (Below.all (Jny _ _) _)).reads (fun v hv=>by cases hv),fun a ha=>by have:=(HOB.out.lt ha).2;simp;omega⟩
 generalize hz:z1.alloc (.cells (JnZ (.int .u16 (20+(cut:Int))) false true (64:Int) p (.slice ob 0 cb) S T) 113)=z2 at*
 clear hz BX1 HOB hw1 hw2
 rw[←hb8] at BX2 hge⊢
 clear hb8 hbz
 refine Jnx (HX1.out ob cb _ HOB2.out.1 HOB2.out.2) ?_
 rintro e z3 ⟨oX,cX,rfl,hoX,hb3⟩
 have BX3:=Jnv (BX2.out.go hb3)
 have HOX:=Jnv hoX
 have HOB3:Hid (Jj z3 ob 0 cb []∧∀a,ob=some a→a.block<z3.heap.size):=Jnv ⟨HOB2.out.1.below hb3,fun a ha=>Jnz (HOB2.out.2 a ha) hb3.size⟩
 have hX:b8<z2.heap.size:=BX2.out.lt 0 rfl
 have hx3:=hb3.size
 clear hoX hb3 HOB2 BX2
 have c4:z3.cell? ⟨b8,4,none⟩=some (.bool true):=BX3.out.cell 0 4 rfl rfl
 have c5:z3.cell? ⟨b8,5,none⟩=some (.int .u16 0):=BX3.out.cell 0 5 rfl rfl
 have c1:z3.cell? ⟨b8,1,none⟩=some (.int .u16 (20+(cut:Int))):=BX3.out.cell 0 1 rfl rfl
 have f4:=frozen_of_row _ _ 4 _ _ (BX3.out.at 0 rfl)
 have f5:=frozen_of_row _ _ 5 _ _ (BX3.out.at 0 rfl)
 have f1:=frozen_of_row _ _ 1 _ _ (BX3.out.at 0 rfl)
 have hle8:w.heap.size≤b8:=hge
 have BX4:=Jnv (((BX3.out.cellSet 4 (.bool false) hle8 (fun p hp=>by cases hp)).cellSet 5 (.int .u16 q) hle8 (fun p hp=>by cases hp)).cellSet 1 (.int .u16 tt) hle8 (fun p hp=>by cases hp))
 have pH:Jc (((z3.setCell ⟨b8,4,none⟩ (.bool false)).setCell ⟨b8,5,none⟩ (.int .u16 q)).setCell ⟨b8,1,none⟩ (.int .u16 tt)) b8 0 17=(Jov (.int .u16 tt) false false (.int .u16 q) (64:Int) p (.slice ob 0 cb) S T:Array Value):=BX4.out.part 0 rfl rfl
 have hd:IntKind.i64.wrap (Int.tdiv (cut:Int) 8)=q:=by have:=HC.out;rw[Int.tdiv_eq_ediv_of_nonneg (by omega),IntKind.wrap_i64,←HQ.out];omega
 have hd2:(cut:Int)/8=q:=by rw[←HQ.out];omega
 have hu:IntKind.u16.wrap q=q:=by have:=HC.out;rw[IntKind.wrap_u16,←HQ.out];omega
 have hs1:IntKind.i64.wrap ((n:Int)-(cut:Int))=tt:=by have:=HC.out;have:=HN.out;rw[IntKind.wrap_i64,←HT.out];omega
 have hs2:IntKind.u16.wrap tt=tt:=by have:=HC.out;rw[IntKind.wrap_u16,←HT.out];omega
 have hl3:b8<z3.heap.size:=Jnz hX hx3
 have HZW:Hid (w.heap.size≤z2.heap.size):=Jnv (by omega)
 clear hge
 go_wp2_with fail
 have hne8:∀a,oX=some a→a.block≠b8:=fun a ha=>by have:=(HOX.out.lt ha).1;omega
 have HOX4:=Jnv (((HOX.out.other (p:=⟨b8,4,none⟩) hne8 (.bool false)).other (p:=⟨b8,5,none⟩) hne8 (.int .u16 q)).other (p:=⟨b8,1,none⟩) hne8 (.int .u16 tt))
 have HOB4:Hid (Jj (((z3.setCell ⟨b8,4,none⟩ (.bool false)).setCell ⟨b8,5,none⟩ (.int .u16 q)).setCell ⟨b8,1,none⟩ (.int .u16 tt)) ob 0 cb []∧∀a,ob=some a→a.block<(((z3.setCell ⟨b8,4,none⟩ (.bool false)).setCell ⟨b8,5,none⟩ (.int .u16 q)).setCell ⟨b8,1,none⟩ (.int .u16 tt)).heap.size):=Jnv ⟨⟨rfl,HOB3.out.1.le,HOB3.out.1.max,(fun v hv=>by cases hv),.inl rfl⟩,fun a ha=>by simpa using HOB3.out.2 a ha⟩
 have HZB:Hid (z2.heap.size≤(((z3.setCell ⟨b8,4,none⟩ (.bool false)).setCell ⟨b8,5,none⟩ (.int .u16 q)).setCell ⟨b8,1,none⟩ (.int .u16 tt)).heap.size):=Jnv (by simpa using hx3)
 clear c4 c5 c1 f4 f5 f1 pH hne8 HOX HOB3 BX3
 generalize ((z3.setCell _ _).setCell _ _).setCell _ _=z4 at*
 refine Jnx (HX2.out ob cb _ HOB4.out.1 HOB4.out.2) ?_
 rintro e z5 ⟨oY,cY,rfl,hoY,hb5⟩
 have BX5:=Jnv (BX4.out.go hb5)
 have HOX5:=Jnv (HOX4.out.below hb5)
 have HOY:=Jnv hoY
 have HR5:=Jnv (HR.out.below BX5.out.out)
 have HXB:Hid (∀a,oX=some a→a.block<z4.heap.size):=Jnv (fun a ha=>(HOX4.out.lt ha).2)
 have HZ5:Hid (z2.heap.size≤z5.heap.size∧z4.heap.size≤z5.heap.size):=Jnv ⟨Nat.le_trans HZB.out hb5.size,hb5.size⟩
 clear hoY hb5 BX4 HOX4 HOB4 hx3 hX hl3
 have hlX:(J8 ⟨0,20+(cut:Int),0,false,true,0,64,p,Ja false S,Ja false T,[]⟩).length=20:=JaK _ (Ji _ _) (Ji _ _) rfl
 have hlY:(J8 ⟨0,tt,0,false,false,q,64,p,Ja false S,Ja false T,[]⟩).length=20:=JaK _ (Ji _ _) (Ji _ _) rfl
 have HXY:=Jnv (And.intro hlX hlY)
 clear hlX hlY
 have hcap:n≤cap:=HR.out.le
 have hA:∀w,(Instr.slice 22 (.slice oa n cap) (some (.int .i64 20)) (some (.int .i64 (20+(cut:Int)))) none).run Tryz.prog w=.ok (.slice (Jp oa 20 cap 1) cut (cap-20)) w:=fun w=>by
  have h:=Qm (P:=Tryz.prog) 22 oa n cap 1 Bits.elemBytes Bits.sizeBytes 20 (20+cut) 20 (20+(cut:Int)) rfl (by simp) (by omega) (by have:=HC.out;have:=HN.out;omega) w
  rw[show 20+cut-20=cut by omega] at h
  exact h
 have hB:∀w,(Instr.slice 22 (.slice oa n cap) (some (.int .i64 (20+(cut:Int)))) none none).run Tryz.prog w=.ok (.slice (Jp oa (20+cut) cap 1) (n-(20+cut)) (cap-(20+cut))) w:=fun w=>Jbf 22 oa n cap 1 Bits.elemBytes Bits.sizeBytes (20+cut) _ (by simp) (by have:=HC.out;have:=HN.out;omega) w
 have HRA:Hid (∀w',Jj w' oa n cap L→Jj w' (Jp oa 20 cap 1) cut (cap-20) (body.take cut)):=Jnv (fun w' g=>by
  have h:=(g.cut 20 (by have:=HN.out;omega)).take cut (by have:=HN.out;have:=HC.out;omega)
  rw[HLD.out] at h
  exact h)
 have HRB:Hid (∀w',Jj w' oa n cap L→Jj w' (Jp oa (20+cut) cap 1) (n-(20+cut)) (cap-(20+cut)) (body.drop cut)):=Jnv (fun w' g=>by
  have h:=g.cut (20+cut) (by have:=HN.out;have:=HC.out;omega)
  rw[←List.drop_drop,HLD.out] at h
  exact h)
 have hw3:IntKind.i64.wrap (20+(cut:Int))=20+(cut:Int):=by have:=HC.out;rw[IntKind.wrap_i64];omega
 go_wp2_with fail
 refine JcF [.h,.h,.h,.h,.h,.h,.h,.w,.h,.h,.h,.h,.h,.h] [(8,1,0),(9,1,0),(10,1,0),(11,1,0),(12,1,0),(13,1,0)] (fun _ _=>True) [1] [(.w,7),(.w,14),(.q,15),(.q,16)] (by kernel_rfl) (by kernel_rfl) (by kernel_rfl) (by kernel_rfl) ?_
 apply Exists.intro
 refine⟨fun wx hbx=>?_,?_,?_⟩
 ·simp only[Ju]
  repeat go_big_quiet_step (fail)
  exact wpQuiet_nil rfl
 ·intro q0 hq' oi hoi
  simp only[List.mem_cons,List.not_mem_nil,or_false] at hq'
  rcases hq' with rfl|rfl|rfl|rfl|rfl|rfl
  ·cases hoi;exact⟨_,rfl,rfl,fun w2 hw=>by kernel_rfl⟩
  ·cases hoi;exact⟨_,rfl,rfl,fun w2 hw=>by kernel_rfl⟩
  ·cases hoi;exact⟨_,rfl,rfl,fun w2 hw=>by kernel_rfl⟩
  ·cases hoi;exact⟨_,rfl,rfl,fun w2 hw=>by kernel_rfl⟩
  ·cases hoi;exact⟨_,rfl,rfl,fun w2 hw=>by simp[execOp,go_sem,hw3]⟩
  ·cases hoi;exact⟨_,rfl,rfl,fun w2 hw=>by simp[execOp,go_sem,hB]⟩
 simp only[JY,List.getElem?_cons_succ,List.getElem?_cons_zero]
 have HOL:Hid (∀a,oa=some a→a.block<w.heap.size):=Jnv (HOL0.out (by have:=HN.out;omega))
 have HBX:Hid (Jm (J8 ⟨0,20+(cut:Int),0,false,true,0,64,p,Ja false S,Ja false T,[]⟩)∧Jm (J8 ⟨0,tt,0,false,false,q,64,p,Ja false S,Ja false T,[]⟩)∧Jm body):=Jnv ⟨HBA.out.1 _ _ _,HBA.out.1 _ _ _,HBA.out.2⟩
 refine⟨fun v fl w2=>∃o1 c1,v=.slice o1 ((J8 ⟨0,20+(cut:Int),0,false,true,0,64,p,Ja false S,Ja false T,[]⟩).length+cut) c1∧Jj w2 o1 ((J8 ⟨0,20+(cut:Int),0,false,true,0,64,p,Ja false S,Ja false T,[]⟩).length+cut) c1 (J8 ⟨0,20+(cut:Int),0,false,true,0,64,p,Ja false S,Ja false T,[]⟩++body.take cut)∧(∀a,o1=some a→oX=some a∨z5.heap.size≤a.block)∧JI w2 z4.heap.size 1 oY (J8 ⟨0,tt,0,false,false,q,64,p,Ja false S,Ja false T,[]⟩).length cY ((J8 ⟨0,tt,0,false,false,q,64,p,Ja false S,Ja false T,[]⟩).map (.int .u8))∧Jj w2 oa n cap L∧Below w.heap.size w w2∧z5.heap.size≤w2.heap.size,?_,?_,?_⟩
 ·refine Jv.made rfl ?_
  rintro w' ⟨⟨x,rfl⟩,-⟩
  obtain⟨o1,c1,w3,hrun,ho,hg,hd⟩:=QK (P:=Tryz.prog) x.world 22 22 5 z2.heap.size Tryz.underlying22 Bits.infoU8 oX _ cX _ (HOX5.out.later x) _ cut _ (body.take cut) (HRA.out _ (HR5.out.later x)) (by have:=HXY.out.1;have:=HC.out;omega) (Nat.le_trans HZ5.out.1 x.below.size)
  rw[←List.map_append] at ho
  refine⟨.slice o1 _ c1,w3,Xn _ _ (by kernel_rfl) (by kernel_rfl) hrun,o1,c1,rfl,ho.reads (Je HBX.out.1 (fun v hv=>HBX.out.2.2 v (List.mem_of_mem_take hv))),fun a ha=>(hd a ha).imp id (fun h=>Nat.le_trans x.below.size h),(HOY.out.later x).grown hg (fun a ha e=>?_),(HR5.out.later x).keep hg.size (fun a ha hlt=>hg.block _ hlt (fun e=>?_)),Below.grown (BX5.out.out.trans (x.below.mono BX5.out.out.size)) hg (Nat.le_trans BX5.out.out.size x.below.size) (fun k hk=>?_),Nat.le_trans x.below.size hg.size⟩
  ·obtain⟨a',ha',hab⟩:=Option.map_eq_some_iff.1 e.symm
   have h1:=HXB.out a' ha'
   have h2:=(HOY.out.lt ha).1
   omega
  ·obtain⟨a',ha',hab⟩:=Option.map_eq_some_iff.1 e.symm
   have h1:=(HOX5.out.lt ha').1
   have h2:=HOL.out a ha
   have h3:=HZW.out
   omega
  ·obtain⟨a',ha',hab⟩:=Option.map_eq_some_iff.1 hk
   have h1:=(HOX5.out.lt ha').1
   have h3:=HZW.out
   omega
 ·intro v fl g _ w2 h
  trivial
 rintro v ⟨w30,o1,c1,rfl,-⟩
 refine⟨fun v fl w2=>∃o2 c2,v=.slice o2 ((J8 ⟨0,tt,0,false,false,q,64,p,Ja false S,Ja false T,[]⟩).length+(n-(20+cut))) c2∧Jj w2 o1 ((J8 ⟨0,20+(cut:Int),0,false,true,0,64,p,Ja false S,Ja false T,[]⟩).length+cut) c1 (J8 ⟨0,20+(cut:Int),0,false,true,0,64,p,Ja false S,Ja false T,[]⟩++body.take cut)∧Jj w2 o2 ((J8 ⟨0,tt,0,false,false,q,64,p,Ja false S,Ja false T,[]⟩).length+(n-(20+cut))) c2 (J8 ⟨0,tt,0,false,false,q,64,p,Ja false S,Ja false T,[]⟩++body.drop cut)∧Below w.heap.size w w2,?_,fun _ _=>Jz rfl,?_⟩
 ·refine Jv.made rfl ?_
  rintro w' ⟨o1',c1',he,h1,hd1,hoY',hRR,hBB,hsz⟩
  obtain⟨rfl,rfl⟩:o1=o1'∧c1=c1':=by simpa using he
  obtain⟨o2,c2,w3,hrun,ho,hg,hd⟩:=QK (P:=Tryz.prog) w' 22 22 5 z4.heap.size Tryz.underlying22 Bits.infoU8 oY _ cY _ hoY' _ (n-(20+cut)) _ (body.drop cut) (HRB.out _ hRR) (by have:=HXY.out.2;have:=HC.out;have:=HN.out;omega) (Nat.le_trans HZ5.out.2 hsz)
  rw[←List.map_append] at ho
  refine⟨.slice o2 _ c2,w3,Xn _ _ (by kernel_rfl) (by kernel_rfl) hrun,o2,c2,rfl,h1.keep hg.size (fun a ha hlt=>hg.block _ hlt (fun e=>?_)),ho.reads (Je HBX.out.2.1 (fun v hv=>HBX.out.2.2 v (List.mem_of_mem_drop hv))),Below.grown hBB hg hBB.size (fun k hk=>?_)⟩
  ·obtain⟨a',ha',hab⟩:=Option.map_eq_some_iff.1 e.symm
   have g1:=(HOY.out.lt ha').1
   have g2:=(HOY.out.lt ha').2
   rcases hd1 a ha with h|h
   ·have:=HXB.out a h;omega
   ·omega
  ·obtain⟨a',ha',hab⟩:=Option.map_eq_some_iff.1 hk
   have g1:=(HOY.out.lt ha').1
   have g3:=HZW.out
   have g4:=HZB.out
   omega
 rintro v ⟨w31,o2,c2,rfl,-⟩
 refine⟨.slice o1 ((J8 ⟨0,20+(cut:Int),0,false,true,0,64,p,Ja false S,Ja false T,[]⟩).length+cut) c1,⟨rfl,fun _=>by kernel_rfl⟩,?_⟩
 refine⟨.slice o2 ((J8 ⟨0,tt,0,false,false,q,64,p,Ja false S,Ja false T,[]⟩).length+(n-(20+cut))) c2,⟨rfl,fun _=>by kernel_rfl⟩,?_⟩
 rintro z6 ⟨o2',c2',he,h1,h2,hBB⟩
 obtain⟨rfl,rfl⟩:o2=o2'∧c2=c2':=by simpa using he
 have HF:=Jnv (And.intro h1 (And.intro h2 hBB))
 clear h1 h2 hBB he
 simp only[Act.put,List.setIfInBounds_toArray,List.set_cons_succ,List.set_cons_zero]
 have HLN:Hid ((J8 ⟨0,20+(cut:Int),0,false,true,0,64,p,Ja false S,Ja false T,[]⟩++body.take cut).length=(J8 ⟨0,20+(cut:Int),0,false,true,0,64,p,Ja false S,Ja false T,[]⟩).length+cut∧(J8 ⟨0,tt,0,false,false,q,64,p,Ja false S,Ja false T,[]⟩++body.drop cut).length=(J8 ⟨0,tt,0,false,false,q,64,p,Ja false S,Ja false T,[]⟩).length+(n-(20+cut))):=Jnv (by have:=HC.out;have:=HN.out;constructor<;>simp<;>omega)
 go_wp2_with fail
 go_ret2
 refine⟨o1,c1,o2,c2,by rw[HLN.out.1,HLN.out.2];rfl,?_,?_,HF.out.2.2⟩
 ·rw[HLN.out.1];exact HF.out.1
 ·rw[HLN.out.2];exact HF.out.2.1
theorem Jk9 (S T:Nat→Int)(p:Int)(body:List Int)(hn:(body.length:Int)<65536)(hp:JP p=false)(l:List Int)(hl:l=QC (body.length:Nat) p (Ja true S) (Ja true T)++body):
 JE l=0∧Xw l=[]∧Xx l=p∧Xl l=body∧sxA l=sxF 0 0 (body.length:Nat) p 64 S T:=by
 obtain⟨-,-,h3,h4,h5⟩:=JlU p (Ja true S) (Ja true T) body [] (Ji _ _) (Ji _ _) hn hp l (by rw[hl,List.append_nil])
 obtain⟨-,-,-,h6,h7,e4,-⟩:=Jhx (body.length:Nat) p (Ja true S) (Ja true T) body (Ji _ _) (Ji _ _) (by omega) l hl
 refine⟨h3,?_,?_,congrArg Jb8.body h5,?_⟩
 ·unfold Xw;rw[h4]
 ·unfold Xx;rw[h4]
 ·have e0:w4 l 0=1610612736:=by
   have:w4 l 0=(96*256+0)*65536+(0*256+0):=by rw[hl];rfl
   rw[this];rfl
  have hS:∀k,k<16→atB l 8 k=S k:=by
   intro k hk
   have e:(l.drop 8).take 16=Ja true S:=by rw[hl];rfl
   have h:=ZU true S k hk
   rw[←e,List.getD_eq_getElem?_getD,List.getElem?_take_of_lt hk,List.getElem?_drop,←List.getD_eq_getElem?_getD] at h
   exact h
  have hT:∀k,k<16→atB l 24 k=T k:=by
   intro k hk
   have e:(l.drop 24).take 16=Ja true T:=by rw[hl];rfl
   have h:=ZU true T k hk
   rw[←e,List.getD_eq_getElem?_getD,List.getElem?_take_of_lt hk,List.getElem?_drop,←List.getD_eq_getElem?_getD] at h
   exact h
  unfold sxA sxF
  rw[e0,e4,h6,h7]
  rw[hS 0 (by decide),hS 1 (by decide),hS 2 (by decide),hS 3 (by decide),hS 4 (by decide),hS 5 (by decide),hS 6 (by decide),hS 7 (by decide),hS 8 (by decide),hS 9 (by decide),hS 10 (by decide),hS 11 (by decide),hS 12 (by decide),hS 13 (by decide),hS 14 (by decide),hS 15 (by decide),
   hT 0 (by decide),hT 1 (by decide),hT 2 (by decide),hT 3 (by decide),hT 4 (by decide),hT 5 (by decide),hT 6 (by decide),hT 7 (by decide),hT 8 (by decide),hT 9 (by decide),hT 10 (by decide),hT 11 (by decide),hT 12 (by decide),hT 13 (by decide),hT 14 (by decide),hT 15 (by decide)]
  rfl
theorem JcG (S T:Nat→Int)(n nx:Int)(hS:U8 S)(hT:U8 T)(hx:0≤nx∧nx<256):Jm (QC n nx (Ja true S) (Ja true T)):=by
 unfold QC
 refine Je (Je (Je (Je (Jgx _) (Jt _)) ?_) (JH hS _)) (JH hT _)
 intro v hv
 simp only[List.mem_cons,List.not_mem_nil,or_false] at hv
 rcases hv with rfl|rfl
 ·exact hx
 ·decide
theorem Jet (p x y:Int)(hp:0≤p∧p<256)(hx:0≤x∧x<256)(hy:0≤y∧y<256):Jm [p,0,x,y,0,0,0,7]:=by
 intro v hv
 simp only[List.mem_cons,List.not_mem_nil,or_false] at hv
 rcases hv with rfl|rfl|rfl|rfl|rfl|rfl|rfl|rfl
 all_goals first|assumption|decide
def Jl0 (w:World)(l:List Int):Ending→World→Prop:=fun e w'=>∃oa cap,e=.returned (.tuple #[.slice oa 40 cap,.int .i64 0])∧JI w' w.heap.size 1 oa 40 cap (l.map (.int .u8))∧Below w.heap.size w w'
theorem Jmv {w w':World}{l:List Int}{e:Ending}(h:Jq w l 0 e w')(hl:l.length=40):Jl0 w l e w':=by
 obtain⟨oa,cap,h1,h2,h3⟩:=h
 rw[hl] at h1 h2
 exact⟨oa,cap,h1,h2,h3⟩
theorem Bx.head1 {W w:World}{f:Nat×Obj}{fs:List (Nat×Obj)}(h:Bx W w (f::fs)):Bx W w [f]:=⟨fun b o hm=>h.all b o (by rcases List.mem_cons.1 hm with e|e;exact e▸List.mem_cons_self;cases e),h.out⟩
theorem Bx.cellSet1 {W w:World}{f:Nat×Obj}{fs:List (Nat×Obj)}{b:Nat}{cs:Array Value}{t:TypeId}(h:Bx W w (f::(b,.cells cs t (0,0))::fs))(k:Nat)(v:Value)(hb:W.heap.size≤b)(hf:f.1≠b)(hne:∀p∈fs,p.1≠b):Bx W (w.setCell ⟨b,k,none⟩ v) (f::(b,.cells (cs.setIfInBounds k v) t (0,0))::fs):=by
 refine⟨fun c o hm=>?_,h.out.setCell hb _⟩
 rcases List.mem_cons.1 hm with e|hm
 ·cases e;exact(Below.heap_setCell _ _ _ _ hf).trans (h.all _ _ List.mem_cons_self)
 rcases List.mem_cons.1 hm with e|hm
 ·cases e;exact heap_setCell_same _ b k cs t v (h.at 1 rfl)
 ·exact(Below.heap_setCell _ _ _ _ (hne _ hm)).trans (h.all c o (List.mem_cons_of_mem _ (List.mem_cons_of_mem _ hm)))
theorem Jj7 (S T:Nat→Int)(p:Int)(body:List Int)(cut:Nat)(hS:U8 S)(hT:U8 T)(hp:0≤p∧p<256)(hbh:JP p=false)(hb:Jm body)(h8:8≤cut)(hm:cut%8=0)(hc:cut<body.length)(hlen:40+body.length≤2048)
 (oa:Option Addr)(n cap:Nat)(w:World)(hr:Jj w oa n cap (QC (body.length:Nat) p (Ja true S) (Ja true T)++body)):
 Calls Tryz.prog 20 #[.slice oa n cap,.int .i64 40,.int .i64 (cut:Int)] w (Jb0 w (QC (8+cut:Nat) 44 (Ja true S) (Ja true T)++[p,0,0,1,0,0,0,7]++body.take cut) (QC (8+(body.length-cut):Nat) 44 (Ja true S) (Ja true T)++[p,0,((cut/256:Nat):Int),((cut%256:Nat):Int),0,0,0,7]++body.drop cut)):=by
 have HR:=Jnv hr
 have HOL0:Hid (0<n→∀a,oa=some a→a.block<w.heap.size):=Jnv (fun h=>hr.lt h)
 have hn:n=40+body.length:=by rw[←hr.len,List.length_append,XM _ _ _ _ (Ji _ _) (Ji _ _)]
 obtain⟨e1,e2,e3,e4,e5⟩:=Jk9 S T p body (by omega) hbh _ rfl
 have HBD:Hid (∀w',Jj w' oa n cap (QC (body.length:Nat) p (Ja true S) (Ja true T)++body)→Calls Tryz.prog 54 #[.slice oa n cap] w' (fun e w2=>∃oe ce oB cB,e=.returned (.tuple #[.agg #[.int .u8 0,.int .u32 0,.int .u16 (body.length:Int),.int .u8 p,.int .u8 64,.int .u8 (S 0),.int .u8 (S 1),.int .u8 (S 2),.int .u8 (S 3),.int .u8 (S 4),.int .u8 (S 5),.int .u8 (S 6),.int .u8 (S 7),.int .u8 (S 8),.int .u8 (S 9),.int .u8 (S 10),.int .u8 (S 11),.int .u8 (S 12),.int .u8 (S 13),.int .u8 (S 14),.int .u8 (S 15),.int .u8 (T 0),.int .u8 (T 1),.int .u8 (T 2),.int .u8 (T 3),.int .u8 (T 4),.int .u8 (T 5),.int .u8 (T 6),.int .u8 (T 7),.int .u8 (T 8),.int .u8 (T 9),.int .u8 (T 10),.int .u8 (T 11),.int .u8 (T 12),.int .u8 (T 13),.int .u8 (T 14),.int .u8 (T 15)],.agg #[.slice oe 0 ce,.int .u8 p],.slice oB body.length cB,.int .i64 0])∧Below w'.heap.size w' w2)):=Jnv fun w' g=>by
  refine(Jem oa n cap _ w' g (by omega)).mono ?_
  rintro e w2 (⟨h,-⟩|⟨-,oe,ce,es,oB,cB,rfl,-,-,hb2,-⟩)
  ·exact absurd e1 h
  ·refine⟨oe,ce,oB,cB,?_,hb2⟩
   rw[e2,e3,e4,e5]
   rfl
 obtain⟨xx,hxx⟩:∃q:Int,((8+cut:Nat):Int)=q:=⟨_,rfl⟩
 obtain⟨tt,htt⟩:∃q:Int,((8+(body.length-cut):Nat):Int)=q:=⟨_,rfl⟩
 obtain⟨ca,hca⟩:∃q:Int,((cut/256:Nat):Int)=q:=⟨_,rfl⟩
 obtain⟨cb,hcb⟩:∃q:Int,((cut%256:Nat):Int)=q:=⟨_,rfl⟩
 rw[hxx,htt,hca,hcb]
 have HCA:Hid ((cut:Int)/256=ca∧(cut:Int)%256=cb):=Jnv (by rw[←hca,←hcb];omega)
 have HX1:Hid (∀w',Calls Tryz.prog 55 #[.agg #[.int .u8 0,.int .u32 0,.int .u16 xx,.int .u8 44,.int .u8 64,.int .u8 (S 0),.int .u8 (S 1),.int .u8 (S 2),.int .u8 (S 3),.int .u8 (S 4),.int .u8 (S 5),.int .u8 (S 6),.int .u8 (S 7),.int .u8 (S 8),.int .u8 (S 9),.int .u8 (S 10),.int .u8 (S 11),.int .u8 (S 12),.int .u8 (S 13),.int .u8 (S 14),.int .u8 (S 15),.int .u8 (T 0),.int .u8 (T 1),.int .u8 (T 2),.int .u8 (T 3),.int .u8 (T 4),.int .u8 (T 5),.int .u8 (T 6),.int .u8 (T 7),.int .u8 (T 8),.int .u8 (T 9),.int .u8 (T 10),.int .u8 (T 11),.int .u8 (T 12),.int .u8 (T 13),.int .u8 (T 14),.int .u8 (T 15)]] w' (Jl0 w' (QC xx 44 (Ja true S) (Ja true T)))):=Jnv fun w'=>(Jcq S T 44 xx hS hT (by decide) (by omega) w').mono fun _ _ h=>Jmv h (XM _ _ _ _ (Ji _ _) (Ji _ _))
 have HX2:Hid (∀w',Calls Tryz.prog 55 #[.agg #[.int .u8 0,.int .u32 0,.int .u16 tt,.int .u8 44,.int .u8 64,.int .u8 (S 0),.int .u8 (S 1),.int .u8 (S 2),.int .u8 (S 3),.int .u8 (S 4),.int .u8 (S 5),.int .u8 (S 6),.int .u8 (S 7),.int .u8 (S 8),.int .u8 (S 9),.int .u8 (S 10),.int .u8 (S 11),.int .u8 (S 12),.int .u8 (S 13),.int .u8 (S 14),.int .u8 (S 15),.int .u8 (T 0),.int .u8 (T 1),.int .u8 (T 2),.int .u8 (T 3),.int .u8 (T 4),.int .u8 (T 5),.int .u8 (T 6),.int .u8 (T 7),.int .u8 (T 8),.int .u8 (T 9),.int .u8 (T 10),.int .u8 (T 11),.int .u8 (T 12),.int .u8 (T 13),.int .u8 (T 14),.int .u8 (T 15)]] w' (Jl0 w' (QC tt 44 (Ja true S) (Ja true T)))):=Jnv fun w'=>(Jcq S T 44 tt hS hT (by decide) (by omega) w').mono fun _ _ h=>Jmv h (XM _ _ _ _ (Ji _ _) (Ji _ _))
 have BX0:=Jnv (Bx.start w)
 have HBA:Hid (Jm (QC xx 44 (Ja true S) (Ja true T))∧Jm (QC tt 44 (Ja true S) (Ja true T))∧Jm [p,0,0,1,0,0,0,7]∧Jm [p,0,ca,cb,0,0,0,7]∧Jm body):=Jnv ⟨JcG S T _ _ hS hT (by decide),JcG S T _ _ hS hT (by decide),Jet _ _ _ hp (by decide) (by decide),Jet _ _ _ hp (by omega) (by omega),hb⟩
 have HXY:Hid ((QC xx 44 (Ja true S) (Ja true T)).length=40∧(QC tt 44 (Ja true S) (Ja true T)).length=40):=Jnv ⟨XM _ _ _ _ (Ji _ _) (Ji _ _),XM _ _ _ _ (Ji _ _) (Ji _ _)⟩
 have HXX:=Jnv hxx
 have HT:=Jnv htt
 clear hxx htt hca hcb
 have HN:=Jnv hn
 have HM:=Jnv (And.intro h8 hm)
 have HC:=Jnv (And.intro hc hlen)
 have HPP:=Jnv hp
 clear e1 e2 e3 e4 e5 hn h8 hm hr hb hp hbh
 have HLD:Hid ((QC (body.length:Nat) p (Ja true S) (Ja true T)++body).drop 40=body):=Jnv (List.drop_left' (XM _ _ _ _ (Ji _ _) (Ji _ _)))
 generalize hLL:(QC (body.length:Nat) p (Ja true S) (Ja true T)++body)=L at*
 clear hLL
 generalize hXH:(QC xx 44 (Ja true S) (Ja true T))=XH at*
 clear hXH
 generalize hYH:(QC tt 44 (Ja true S) (Ja true T))=YH at*
 clear hYH
 obtain⟨XF,hXF⟩:∃l,XH++[p,0,0,1,0,0,0,7]++body.take cut=l:=⟨_,rfl⟩
 obtain⟨YF,hYF⟩:∃l,YH++[p,0,ca,cb,0,0,0,7]++body.drop cut=l:=⟨_,rfl⟩
 rw[hXF,hYF]
 have HXF:=Jnv hXF
 have HYF:=Jnv hYF
 clear hXF hYF
 go_enter Tryz.func20,Tryz.ntmps20
 go_wp2_with fail
 refine Jnx (HBD.out _ HR.out) ?_
 rintro e z1 ⟨oe,ce,oB,cB,rfl,hbz⟩
 have BX1:=Jnv (((BX0.out.go hbz).box (JnW (.int .u16 (body.length:Int)) p (64:Int) S T) 118).box #[.slice oe 0 ce,p] 96)
 clear HBD
 have hge:=hbz.size
 obtain⟨b8,hb8⟩:∃b,b=z1.heap.size:=⟨_,rfl⟩
 have hw1:IntKind.i64.wrap (8+(cut:Int))=xx:=by have:=HC.out;rw[IntKind.wrap_i64,←HXX.out];omega
 have hw1':8+(cut:Int)=xx:=by have:=HC.out;rw[←HXX.out];omega
 have hw2:IntKind.u16.wrap xx=xx:=by have:=HC.out;rw[IntKind.wrap_u16,←HXX.out];omega
 go_wp2_with fail
 have BX2:Hid (Bx w ((z1.alloc (.cells (JnW (.int .u16 xx) (44:Int) (64:Int) S T) 118)).alloc (.cells #[.slice oe 0 ce,p] 96)) [(b8+1,.cells #[.slice oe 0 ce,p] 96 (0,0)),(b8,.cells (JnW (.int .u16 xx) (44:Int) (64:Int) S T) 118 (0,0))]):=Jnv (by
  have h:=((BX0.out.go hbz).box (JnW (.int .u16 xx) (44:Int) (64:Int) S T) 118).box #[.slice oe 0 ce,p] 96
  rw[show(z1.alloc (.cells (JnW (.int .u16 xx) (44:Int) (64:Int) S T) 118)).heap.size=b8+1 by rw[hb8];simp,←hb8] at h
  exact h)
 generalize hz:((z1.alloc (.cells (JnW (.int .u16 xx) (44:Int) (64:Int) S T) 118)).alloc (.cells #[.slice oe 0 ce,p] 96))=z2 at*
 rw[←hb8] at hge⊢
 clear hz BX1 hw1 hw1' hw2 hb8 hbz
 refine Jnx (HX1.out _) ?_
 rintro e z3 ⟨oX,cX,rfl,hoX,hb3⟩
 have BX3:=Jnv (BX2.out.go hb3)
 have HOX:=Jnv hoX
 have hX:b8+1<z2.heap.size:=BX2.out.lt 0 rfl
 have hx3:=hb3.size
 clear hoX hb3
 have c2:z3.cell? ⟨b8,2,none⟩=some (.int .u16 xx):=BX3.out.cell 1 2 rfl rfl
 have f2:=frozen_of_row _ _ 2 _ _ (BX3.out.at 1 rfl)
 have hle8:w.heap.size≤b8:=hge
 have BX4:=Jnv (BX3.out.cellSet1 2 (.int .u16 tt) hle8 (by simp) (fun p hp=>by cases hp))
 have pH:Jc (z3.setCell ⟨b8,2,none⟩ (.int .u16 tt)) b8 0 37=(JnW (.int .u16 tt) (44:Int) (64:Int) S T:Array Value):=BX4.out.part 1 rfl rfl
 have hs0:IntKind.i64.wrap (8+(n:Int))=8+(n:Int):=by have:=HC.out;have:=HN.out;rw[IntKind.wrap_i64];omega
 have hs1:IntKind.i64.wrap (8+(n:Int)-40)=8+(n:Int)-40:=by have:=HC.out;have:=HN.out;rw[IntKind.wrap_i64];omega
 have hs2:IntKind.i64.wrap (8+(n:Int)-40-(cut:Int))=tt:=by have:=HC.out;have:=HN.out;rw[IntKind.wrap_i64,←HT.out];omega
 have hs3:IntKind.u16.wrap tt=tt:=by have:=HC.out;rw[IntKind.wrap_u16,←HT.out];omega
 have hl3:b8<z3.heap.size:=by omega
 have HZW:Hid (w.heap.size≤z2.heap.size):=Jnv (by omega)
 clear hge
 go_wp2_with fail
 have hne8:∀a,oX=some a→a.block≠b8:=fun a ha=>by have:=(HOX.out.lt ha).1;omega
 have HOX4:=Jnv (HOX.out.other (p:=⟨b8,2,none⟩) hne8 (.int .u16 tt))
 have HZB:Hid (z2.heap.size≤(z3.setCell ⟨b8,2,none⟩ (.int .u16 tt)).heap.size):=Jnv (by simpa using hx3)
 clear c2 f2 pH hne8 HOX BX3 hs0 hs1 hs2 hs3 hl3
 generalize z3.setCell _ _=z4 at*
 refine Jnx (HX2.out _) ?_
 rintro e z5 ⟨oY,cY,rfl,hoY,hb5⟩
 have BX5:=Jnv ((BX4.out.go hb5).head1)
 have BX2S:=Jnv BX2.out.head1
 have HOX5:=Jnv (HOX4.out.below hb5)
 have HOY:=Jnv hoY
 have HR5:=Jnv (HR.out.below BX5.out.out)
 have HXB:Hid (∀a,oX=some a→a.block<z4.heap.size):=Jnv (fun a ha=>(HOX4.out.lt ha).2)
 have HZ5:Hid (z2.heap.size≤z5.heap.size∧z4.heap.size≤z5.heap.size):=Jnv ⟨Nat.le_trans HZB.out hb5.size,hb5.size⟩
 have HOL:Hid (∀a,oa=some a→a.block<w.heap.size):=Jnv (HOL0.out (by have:=HN.out;omega))
 clear hoY hb5 BX4 HOX4 hx3
 have c9:z5.cell? ⟨b8+1,1,none⟩=some (.int .u8 p):=BX5.out.cell 0 1 rfl rfl
 have l9:b8+1<z5.heap.size:=BX5.out.lt 0 rfl
 have BXa:=Jnv (BX5.out.go (Below.all (Jny _ _) (.cells (Jn4 p (1:Int) (7:Int)) 5)))
 have HXa:=Jnv (HOX5.out.alloc (.cells (Jn4 p (1:Int) (7:Int)) 5))
 have HYa:=Jnv (HOY.out.alloc (.cells (Jn4 p (1:Int) (7:Int)) 5))
 have HRa:=Jnv (HR5.out.alloc (.cells (Jn4 p (1:Int) (7:Int)) 5))
 have DXa:Hid (Jj (z5.alloc (.cells (Jn4 p (1:Int) (7:Int)) 5)) (some ⟨z5.heap.size,0,none⟩) 8 8 [p,0,0,1,0,0,0,7]):=Jnv (JI.reads (l:=[p,0,0,1,0,0,0,7]) (JcW (vs:=([p,0,0,1,0,0,0,7]:List Int).map (.int .u8)) (heap_alloc_new _ _) (show(8:Nat)≤maxLen by decide)) HBA.out.2.2.1)
 have HZa:Hid (z2.heap.size≤(z5.alloc (.cells (Jn4 p (1:Int) (7:Int)) 5)).heap.size∧z4.heap.size≤(z5.alloc (.cells (Jn4 p (1:Int) (7:Int)) 5)).heap.size):=Jnv (by have:=HZ5.out;simp;omega)
 clear BX5 HOX5 HR5
 go_wp2_with (at_builtin;refine JB.of ?_)
 clear c9 l9
 generalize hza:z5.alloc _=za at*
 have hz5a:za.heap.size=z5.heap.size+1:=by rw[←hza];simp
 clear hza
 refine JB.mk ?_
 refine JD _ rfl _ _ 22 rfl 5 z2.heap.size Tryz.underlying22 Bits.infoU8 _ _ _ _ rfl HXa.out _ 8 _ [p,0,0,1,0,0,0,7] rfl DXa.out (by decide) HZa.out.1 ?_
 intro oX2 cX2 z6 ho6 hg6 hd6
 have BX6:=Jnv (BXa.out.grown BX2S.out hg6 (fun a ha=>(HXa.out.lt ha).1))
 have HY6:=Jnv (HYa.out.grown hg6 (fun a ha e=>by
  obtain⟨a',ha',hab⟩:=Option.map_eq_some_iff.1 e.symm
  have h1:=HXB.out a' ha'
  have h2:=(HOY.out.lt ha).1
  omega))
 have HR6:=Jnv (HRa.out.keep hg6.size (fun a ha hlt=>hg6.block _ hlt (fun e=>by
  obtain⟨a',ha',hab⟩:=Option.map_eq_some_iff.1 e.symm
  have h1:=(HXa.out.lt ha').1
  have h2:=HOL.out a ha
  have h3:=HZW.out
  omega)))
 have HD6:Hid (∀a,oX2=some a→a.block<z4.heap.size∨z5.heap.size+1≤a.block):=Jnv (fun a ha=>(hd6 a ha).imp (fun h=>HXB.out a h) (fun h=>by omega))
 have HX6:=Jnv ho6
 have HZ6:Hid (z4.heap.size≤z6.heap.size∧z5.heap.size+1≤z6.heap.size):=Jnv (by have:=hg6.size;have:=HZa.out;omega)
 clear ho6 hg6 hd6 BXa HXa HYa HRa DXa HZa
 have c9:z6.cell? ⟨b8+1,1,none⟩=some (.int .u8 p):=BX6.out.cell 0 1 rfl rfl
 have l9:b8+1<z6.heap.size:=BX6.out.lt 0 rfl
 have BXb:=Jnv (BX6.out.go (Below.all (Jny _ _) (.cells (Jn7 p ca cb (7:Int)) 5)))
 have HXb:=Jnv (HX6.out.alloc (.cells (Jn7 p ca cb (7:Int)) 5))
 have HYb:=Jnv (HY6.out.alloc (.cells (Jn7 p ca cb (7:Int)) 5))
 have HRb:=Jnv (HR6.out.alloc (.cells (Jn7 p ca cb (7:Int)) 5))
 have DYb:Hid (Jj (z6.alloc (.cells (Jn7 p ca cb (7:Int)) 5)) (some ⟨z6.heap.size,0,none⟩) 8 8 [p,0,ca,cb,0,0,0,7]):=Jnv (JI.reads (l:=[p,0,ca,cb,0,0,0,7]) (JcW (vs:=([p,0,ca,cb,0,0,0,7]:List Int).map (.int .u8)) (heap_alloc_new _ _) (show(8:Nat)≤maxLen by decide)) HBA.out.2.2.2.1)
 have hk1:=HCA.out.1
 have hk2:=HCA.out.2
 go_wp2_with (at_builtin;refine JB.of ?_)
 clear c9 l9 hk1 hk2
 generalize hzb:z6.alloc _=zb at*
 have hz6b:zb.heap.size=z6.heap.size+1:=by rw[←hzb];simp
 clear hzb
 refine JB.mk ?_
 refine JD _ rfl _ _ 22 rfl 5 z4.heap.size Tryz.underlying22 Bits.infoU8 _ _ _ _ rfl HYb.out _ 8 _ [p,0,ca,cb,0,0,0,7] rfl DYb.out (by decide) (by have:=HZ6.out;omega) ?_
 intro oY2 cY2 z7 ho7 hg7 hd7
 obtain⟨X2,hX2⟩:∃l,XH++[p,0,0,1,0,0,0,7]=l:=⟨_,rfl⟩
 obtain⟨Y2,hY2⟩:∃l,YH++[p,0,ca,cb,0,0,0,7]=l:=⟨_,rfl⟩
 have HX7:Hid (JI z7 z2.heap.size 1 oX2 48 cX2 (X2.map (.int .u8))):=Jnv (by
  rw[←hX2,List.map_append]
  exact HXb.out.grown hg7 (fun a ha e=>by
   obtain⟨a',ha',hab⟩:=Option.map_eq_some_iff.1 e.symm
   have h1:=HOY.out.lt ha'
   have h2:=HD6.out a ha
   omega))
 have HY7:Hid (JI z7 z4.heap.size 1 oY2 48 cY2 (Y2.map (.int .u8))):=Jnv (by
  rw[←hY2,List.map_append]
  exact ho7)
 have HR7:=Jnv (HRb.out.keep hg7.size (fun a ha hlt=>hg7.block _ hlt (fun e=>by
  obtain⟨a',ha',hab⟩:=Option.map_eq_some_iff.1 e.symm
  have h1:=(HOY.out.lt ha').1
  have h2:=HOL.out a ha
  have h3:=HZW.out
  have h4:=HZB.out
  omega)))
 have HB7:Hid (Below w.heap.size w z7):=Jnv (Below.grown BXb.out.out hg7 BXb.out.out.size (fun k hk=>by
  obtain⟨a',ha',hab⟩:=Option.map_eq_some_iff.1 hk
  have h1:=(HOY.out.lt ha').1
  have h3:=HZW.out
  have h4:=HZB.out
  omega))
 have HNE:Hid (∀a b,oX2=some a→oY2=some b→a.block≠b.block):=Jnv (fun a b ha hb=>by
  have h1:=HD6.out a ha
  have h2:=(HX6.out.lt ha).2
  rcases hd7 b hb with h|h
  ·have h3:=HOY.out.lt h;omega
  ·omega)
 have HZ7:Hid (z2.heap.size≤z7.heap.size∧z4.heap.size≤z7.heap.size):=Jnv (by have:=hg7.size;have:=HZ6.out;have:=HZB.out;omega)
 have HXL:Hid (X2.length=48∧Y2.length=48):=Jnv (by rw[←hX2,←hY2,List.length_append,List.length_append,HXY.out.1,HXY.out.2];exact⟨rfl,rfl⟩)
 have HIB:Hid (Jm X2∧Jm Y2∧Jm body):=Jnv (by rw[←hX2,←hY2];exact⟨Je HBA.out.1 HBA.out.2.2.1,Je HBA.out.2.1 HBA.out.2.2.2.1,HBA.out.2.2.2.2⟩)
 have HX2:=Jnv hX2
 have HY2:=Jnv hY2
 clear ho7 hg7 hd7 HXb HYb HRb DYb BXb hX2 hY2 BX6 HY6 HR6 HD6 HX6 HZ6 hz5a hz6b
 have hcap:n≤cap:=HR.out.le
 have hA:∀w,(Instr.slice 22 (.slice oa n cap) (some (.int .i64 40)) (some (.int .i64 (40+(cut:Int)))) none).run Tryz.prog w=.ok (.slice (Jp oa 40 cap 1) cut (cap-40)) w:=fun w=>by
  have h:=Qm (P:=Tryz.prog) 22 oa n cap 1 Bits.elemBytes Bits.sizeBytes 40 (40+cut) 40 (40+(cut:Int)) rfl (by simp) (by omega) (by have:=HC.out;have:=HN.out;omega) w
  rw[show 40+cut-40=cut by omega] at h
  exact h
 have hB:∀w,(Instr.slice 22 (.slice oa n cap) (some (.int .i64 (40+(cut:Int)))) none none).run Tryz.prog w=.ok (.slice (Jp oa (40+cut) cap 1) (n-(40+cut)) (cap-(40+cut))) w:=fun w=>Jbf 22 oa n cap 1 Bits.elemBytes Bits.sizeBytes (40+cut) _ (by simp) (by have:=HC.out;have:=HN.out;omega) w
 have HRA:Hid (∀w',Jj w' oa n cap L→Jj w' (Jp oa 40 cap 1) cut (cap-40) (body.take cut)):=Jnv (fun w' g=>by
  have h:=(g.cut 40 (by have:=HN.out;omega)).take cut (by have:=HN.out;have:=HC.out;omega)
  rw[HLD.out] at h
  exact h)
 have HRB:Hid (∀w',Jj w' oa n cap L→Jj w' (Jp oa (40+cut) cap 1) (n-(40+cut)) (cap-(40+cut)) (body.drop cut)):=Jnv (fun w' g=>by
  have h:=g.cut (40+cut) (by have:=HN.out;have:=HC.out;omega)
  rw[←List.drop_drop,HLD.out] at h
  exact h)
 have hw3:IntKind.i64.wrap (40+(cut:Int))=40+(cut:Int):=by have:=HC.out;rw[IntKind.wrap_i64];omega
 go_wp2_with fail
 refine JcF [.h,.h,.h,.h,.h,.h,.h,.w,.h,.h,.h,.h,.h,.h] [(8,1,0),(9,1,0),(10,1,0),(11,1,0),(12,1,0),(13,1,0)] (fun _ _=>True) [1] [(.w,7),(.w,14),(.q,15),(.q,16)] (by kernel_rfl) (by kernel_rfl) (by kernel_rfl) (by kernel_rfl) ?_
 apply Exists.intro
 refine⟨fun wx hbx=>?_,?_,?_⟩
 ·simp only[Ju]
  repeat go_big_quiet_step (fail)
  exact wpQuiet_nil rfl
 ·intro q0 hq' oi hoi
  simp only[List.mem_cons,List.not_mem_nil,or_false] at hq'
  rcases hq' with rfl|rfl|rfl|rfl|rfl|rfl
  ·cases hoi;exact⟨_,rfl,rfl,fun w2 hw=>by kernel_rfl⟩
  ·cases hoi;exact⟨_,rfl,rfl,fun w2 hw=>by kernel_rfl⟩
  ·cases hoi;exact⟨_,rfl,rfl,fun w2 hw=>by kernel_rfl⟩
  ·cases hoi;exact⟨_,rfl,rfl,fun w2 hw=>by kernel_rfl⟩
  ·cases hoi;exact⟨_,rfl,rfl,fun w2 hw=>by simp[execOp,go_sem,hw3]⟩
  ·cases hoi;exact⟨_,rfl,rfl,fun w2 hw=>by simp[execOp,go_sem,hB]⟩
 simp only[JY,List.getElem?_cons_succ,List.getElem?_cons_zero]
 refine⟨fun v fl w2=>∃o1 c1,v=.slice o1 (48+cut) c1∧Jj w2 o1 (48+cut) c1 (X2++body.take cut)∧(∀a,o1=some a→oX2=some a∨z7.heap.size≤a.block)∧JI w2 z4.heap.size 1 oY2 48 cY2 (Y2.map (.int .u8))∧Jj w2 oa n cap L∧Below w.heap.size w w2∧z7.heap.size≤w2.heap.size,?_,?_,?_⟩
 ·refine Jv.made rfl ?_
  rintro w' ⟨⟨x,rfl⟩,-⟩
  obtain⟨o1,c1,w3,hrun,ho,hg,hd⟩:=QK (P:=Tryz.prog) x.world 22 22 5 z2.heap.size Tryz.underlying22 Bits.infoU8 oX2 _ cX2 _ (HX7.out.later x) _ cut _ (body.take cut) (HRA.out _ (HR7.out.later x)) (by have:=HC.out;omega) (Nat.le_trans HZ7.out.1 x.below.size)
  rw[←List.map_append] at ho
  refine⟨.slice o1 _ c1,w3,Xn _ _ (by kernel_rfl) (by kernel_rfl) hrun,o1,c1,rfl,ho.reads (Je HIB.out.1 (fun v hv=>HIB.out.2.2 v (List.mem_of_mem_take hv))),fun a ha=>(hd a ha).imp id (fun h=>Nat.le_trans x.below.size h),(HY7.out.later x).grown hg (fun a ha e=>?_),(HR7.out.later x).keep hg.size (fun a ha hlt=>hg.block _ hlt (fun e=>?_)),Below.grown (HB7.out.trans (x.below.mono HB7.out.size)) hg (Nat.le_trans HB7.out.size x.below.size) (fun k hk=>?_),Nat.le_trans x.below.size hg.size⟩
  ·obtain⟨a',ha',hab⟩:=Option.map_eq_some_iff.1 e.symm
   exact HNE.out a' a ha' ha hab
  ·obtain⟨a',ha',hab⟩:=Option.map_eq_some_iff.1 e.symm
   have h1:=(HX7.out.lt ha').1
   have h2:=HOL.out a ha
   have h3:=HZW.out
   omega
  ·obtain⟨a',ha',hab⟩:=Option.map_eq_some_iff.1 hk
   have h1:=(HX7.out.lt ha').1
   have h3:=HZW.out
   omega
 ·intro v fl g _ w2 h
  trivial
 rintro v ⟨w30,o1,c1,rfl,-⟩
 refine⟨fun v fl w2=>∃o2 c2,v=.slice o2 (48+(n-(40+cut))) c2∧Jj w2 o1 (48+cut) c1 (X2++body.take cut)∧Jj w2 o2 (48+(n-(40+cut))) c2 (Y2++body.drop cut)∧Below w.heap.size w w2,?_,fun _ _=>Jz rfl,?_⟩
 ·refine Jv.made rfl ?_
  rintro w' ⟨o1',c1',he,h1,hd1,hoY',hRR,hBB,hsz⟩
  obtain⟨rfl,rfl⟩:o1=o1'∧c1=c1':=by simpa using he
  obtain⟨o2,c2,w3,hrun,ho,hg,hd⟩:=QK (P:=Tryz.prog) w' 22 22 5 z4.heap.size Tryz.underlying22 Bits.infoU8 oY2 _ cY2 _ hoY' _ (n-(40+cut)) _ (body.drop cut) (HRB.out _ hRR) (by have:=HC.out;have:=HN.out;omega) (Nat.le_trans HZ7.out.2 hsz)
  rw[←List.map_append] at ho
  refine⟨.slice o2 _ c2,w3,Xn _ _ (by kernel_rfl) (by kernel_rfl) hrun,o2,c2,rfl,h1.keep hg.size (fun a ha hlt=>hg.block _ hlt (fun e=>?_)),ho.reads (Je HIB.out.2.1 (fun v hv=>HIB.out.2.2 v (List.mem_of_mem_drop hv))),Below.grown hBB hg hBB.size (fun k hk=>?_)⟩
  ·obtain⟨a',ha',hab⟩:=Option.map_eq_some_iff.1 e.symm
   have g1:=(HY7.out.lt ha').2
   rcases hd1 a ha with h|h
   ·exact HNE.out a a' h ha' hab.symm
   ·omega
  ·obtain⟨a',ha',hab⟩:=Option.map_eq_some_iff.1 hk
   have g1:=(HY7.out.lt ha').1
   have g3:=HZW.out
   have g4:=HZB.out
   omega
 rintro v ⟨w31,o2,c2,rfl,-⟩
 refine⟨.slice o1 (48+cut) c1,⟨rfl,fun _=>by kernel_rfl⟩,?_⟩
 refine⟨.slice o2 (48+(n-(40+cut))) c2,⟨rfl,fun _=>by kernel_rfl⟩,?_⟩
 rintro z8 ⟨o2',c2',he,h1,h2,hBB⟩
 obtain⟨rfl,rfl⟩:o2=o2'∧c2=c2':=by simpa using he
 have HF:=Jnv (And.intro h1 (And.intro h2 hBB))
 clear h1 h2 hBB he
 simp only[Act.put,List.setIfInBounds_toArray,List.set_cons_succ,List.set_cons_zero]
 have HLN:Hid ((X2++body.take cut).length=48+cut∧(Y2++body.drop cut).length=48+(n-(40+cut))):=Jnv (by have:=HC.out;have:=HN.out;have:=HXL.out;constructor<;>simp<;>omega)
 go_wp2_with fail
 go_ret2
 rw[←HXF.out,←HYF.out,HX2.out,HY2.out]
 refine⟨o1,c1,o2,c2,by rw[HLN.out.1,HLN.out.2];rfl,?_,?_,HF.out.2.2⟩
 ·rw[HLN.out.1];exact HF.out.1
 ·rw[HLN.out.2];exact HF.out.2.1
def hdI (s:Bool):Int:=if s=true then 40 else 20
theorem Jmw:hdI false=20:=rfl
theorem Jmx:hdI true=40:=rfl
theorem Jj8 {sp:Sp}(he:Q1 sp=0):((spL sp).length:Int)=hdI sp.k.s+(Jx sp).length:=by
 rw[(JdG he).is,List.length_append,Xo]
 cases sp.k.s<;>simp[hdI]
theorem Jla {sp:Sp}(ho:Jha sp)(he:Q1 sp=0)(cut:Nat)(h8:8≤cut)(hm:cut%8=0)(hc:hdI sp.k.s+(cut:Int)<((spL sp).length:Int))(h2:(spL sp).length≤2048)(oa:Option Addr)(n cap:Nat)(w:World)(hr:Jj w oa n cap (spL sp)):
 Calls Tryz.prog 20 #[.slice oa n cap,.int .i64 (hdI sp.k.s),.int .i64 (cut:Int)] w (Jb0 w (XN sp cut) (XO sp cut)):=by
 have hy:=JdG he
 have hk:=ho.k
 have hl:=Jj8 he
 have hbb:Jm (Jx sp):=Jaa ho
 unfold XN XO
 cases hs:sp.k.s with
 |false=>
  rw[hs,Jmw] at hc hl
  rw[hy.is,Jfx hs] at hr
  exact JiV sp.k.S sp.k.T sp.k.p (Jx sp) cut hk.S hk.T hk.p hbb h8 hm (by omega) (by omega) oa n cap w hr
 |true=>
  rw[hs,Jmx] at hc hl
  rw[hy.is,Jfy hs] at hr
  exact Jj7 sp.k.S sp.k.T sp.k.p (Jx sp) cut hk.S hk.T hk.p (hy.chain hs) hbb h8 hm (by omega) (by omega) oa n cap w hr
theorem Jj9 (sp:Sp)(at_:Int)(ho:Jha sp)(w:World)(henv:Env w):Calls Tryz.prog 5 #[.agg (spV sp),.int .i64 at_] w (Jk w (.bool true)):=by
 have HE:=Jnv henv
 have HU:=Jnv (JcX ho)
 have HPUT:=Jnv (fun w=>JbX sp ho w)
 obtain⟨k,hk,hpk⟩:=Jk6 at_
 have HPI:=Jnv hpk
 obtain⟨cut,hcut⟩:∃c:Nat,8*(1+k)=c:=⟨_,rfl⟩
 have HCU:Hid (8≤cut∧cut%8=0∧cut≤1600):=Jnv (by omega)
 have HL8:Hid ((spL sp).length≤2048):=Jnv (by
  by_cases h:Q1 sp=0
  ·have g:=(JdG h).len;rw[(JdG h).is];exact g
  ·unfold spL;rw[if_neg h];decide)
 have HFR:Hid (Q1 sp=0→hdI sp.k.s+(cut:Int)<((spL sp).length:Int)→∀w' o c,Jj w' o (spL sp).length c (spL sp)→Calls Tryz.prog 20 #[.slice o (spL sp).length c,.int .i64 (hdI sp.k.s),.int .i64 (cut:Int)] w' (Jb0 w' (XN sp cut) (XO sp cut))):=Jnv fun he hc w' o c g=>Jla ho he cut (by omega) (by omega) hc HL8.out o _ c w' g
 obtain⟨ff,hff⟩:∃q:Int,(if cut<14 then 0 else sp.f)=q:=⟨_,rfl⟩
 have HF1:Hid (cut<14→ff=0):=Jnv fun h=>by rw[←hff,if_pos h]
 have HF2:Hid (¬cut<14→ff=sp.f):=Jnv fun h=>by rw[←hff,if_neg h]
 have HBL:Hid (Q1 sp=0→hdI sp.k.s+(cut:Int)<((spL sp).length:Int)→cut<(Jx sp).length):=Jnv fun he h=>by
  have hl:=Jj8 he
  omega
 have HST:Hid (Q1 sp=0→sp.k.s=sp.k.t):=Jnv fun he=>(JdG he).st
 have HK1:Hid (Q1 sp=0→hdI sp.k.s+(cut:Int)<((spL sp).length:Int)→(spL sp).length+8≤2048→pkR (XN sp cut)=.tuple #[.agg (Zh ⟨sp.k.s,sp.k.S,sp.k.T,sp.k.p,sp.k.a,sp.k.b,(XN sp cut).length,ff,false⟩),.int .i64 0]):=Jnv fun he h1 h2=>by
  obtain⟨e1,e2⟩:=JkY ho he cut (by omega) (by omega) (HBL.out he h1) h2
  unfold pkR
  rw[e1,e2,hff]
 have HK2:Hid (Q1 sp=0→hdI sp.k.s+(cut:Int)<((spL sp).length:Int)→(spL sp).length+8≤2048→pkR (XO sp cut)=.tuple #[.agg (Zh ⟨sp.k.s,sp.k.S,sp.k.T,sp.k.p,0,0,(XO sp cut).length,0,true⟩),.int .i64 0]):=Jnv fun he h1 h2=>by
  obtain⟨e1,e2⟩:=JkZ ho he cut (by omega) (by omega) (HBL.out he h1) h2
  unfold pkR
  rw[e1,e2]
 obtain⟨⟨s,S,t,T,p,a,b⟩,f,d⟩:=sp
 simp only at HST HF2 HK1 HK2 HFR
 obtain⟨hI,hhI⟩:∃h:Int,hdI s=h:=⟨_,rfl⟩
 have hIb:0≤hI∧hI≤40:=by rw[←hhI];cases s<;>decide
 rw[hhI] at HK1 HK2 HFR
 generalize hX:XN ⟨⟨s,S,t,T,p,a,b⟩,f,d⟩ cut=X at*
 generalize hY:XO ⟨⟨s,S,t,T,p,a,b⟩,f,d⟩ cut=Y at*
 have HP1:Hid (Q1 ⟨⟨s,S,t,T,p,a,b⟩,f,d⟩=0→hI+(cut:Int)<((spL ⟨⟨s,S,t,T,p,a,b⟩,f,d⟩).length:Int)→(spL ⟨⟨s,S,t,T,p,a,b⟩,f,d⟩).length+8≤2048→∀w' o c,Jj w' o X.length c X→Calls Tryz.prog 11 #[.slice o X.length c] w' (Jk w' (.tuple #[.agg #[.bool s,.int .u8 (S 0),.int .u8 (S 1),.int .u8 (S 2),.int .u8 (S 3),.int .u8 (S 4),.int .u8 (S 5),.int .u8 (S 6),.int .u8 (S 7),.int .u8 (S 8),.int .u8 (S 9),.int .u8 (S 10),.int .u8 (S 11),.int .u8 (S 12),.int .u8 (S 13),.int .u8 (S 14),.int .u8 (S 15),.bool t,.int .u8 (T 0),.int .u8 (T 1),.int .u8 (T 2),.int .u8 (T 3),.int .u8 (T 4),.int .u8 (T 5),.int .u8 (T 6),.int .u8 (T 7),.int .u8 (T 8),.int .u8 (T 9),.int .u8 (T 10),.int .u8 (T 11),.int .u8 (T 12),.int .u8 (T 13),.int .u8 (T 14),.int .u8 (T 15),.int .u8 p,.int .u16 a,.int .u16 b,.int .i64 (X.length:Int),.int .u8 ff,.bool false],.int .i64 0]))):=Jnv fun he h1 h2 w' o c g=>by
  have h:=Jes o _ c _ w' g
  have est:s=t:=HST.out he
  rw[HK1.out he h1 h2] at h
  subst est
  exact h
 have HP2:Hid (Q1 ⟨⟨s,S,t,T,p,a,b⟩,f,d⟩=0→hI+(cut:Int)<((spL ⟨⟨s,S,t,T,p,a,b⟩,f,d⟩).length:Int)→(spL ⟨⟨s,S,t,T,p,a,b⟩,f,d⟩).length+8≤2048→∀w' o c,Jj w' o Y.length c Y→Calls Tryz.prog 11 #[.slice o Y.length c] w' (Jk w' (.tuple #[.agg #[.bool s,.int .u8 (S 0),.int .u8 (S 1),.int .u8 (S 2),.int .u8 (S 3),.int .u8 (S 4),.int .u8 (S 5),.int .u8 (S 6),.int .u8 (S 7),.int .u8 (S 8),.int .u8 (S 9),.int .u8 (S 10),.int .u8 (S 11),.int .u8 (S 12),.int .u8 (S 13),.int .u8 (S 14),.int .u8 (S 15),.bool t,.int .u8 (T 0),.int .u8 (T 1),.int .u8 (T 2),.int .u8 (T 3),.int .u8 (T 4),.int .u8 (T 5),.int .u8 (T 6),.int .u8 (T 7),.int .u8 (T 8),.int .u8 (T 9),.int .u8 (T 10),.int .u8 (T 11),.int .u8 (T 12),.int .u8 (T 13),.int .u8 (T 14),.int .u8 (T 15),.int .u8 p,.int .u16 0,.int .u16 0,.int .i64 (Y.length:Int),.int .u8 0,.bool true],.int .i64 0]))):=Jnv fun he h1 h2 w' o c g=>by
  have h:=Jes o _ c _ w' g
  have est:s=t:=HST.out he
  rw[HK2.out he h1 h2] at h
  subst est
  exact h
 have BX0:Hid (Bx w (w.alloc (.cells (JnU s t p (.int .u16 a) (.int .u16 b) f (.int .i64 d) S T) 47)) [(w.heap.size,.cells (JnU s t p (.int .u16 a) (.int .u16 b) f (.int .i64 d) S T) 47 (0,0))]):=Jnv ((Bx.start w).box _ _)
 have HBP:Hid ((∀(z:World) fs,Bx w z fs→Bx w (z.alloc (.cells (JnJ s t p (.int .u16 a) (.int .u16 b) (.int .i64 (X.length:Int)) ff false S T) 32)) ((z.heap.size,.cells (JnJ s t p (.int .u16 a) (.int .u16 b) (.int .i64 (X.length:Int)) ff false S T) 32 (0,0))::fs))∧∀(z:World) o n c l,Jj z o n c l→Jj (z.alloc (.cells (JnJ s t p (.int .u16 a) (.int .u16 b) (.int .i64 (X.length:Int)) ff false S T) 32)) o n c l):=Jnv ⟨fun z fs h=>h.box _ _,fun z o n c l h=>h.alloc _⟩
 have HPT:Hid (∀z:World,z.heap[w.heap.size]? =some (.cells (JnU s t p (.int .u16 a) (.int .u16 b) f (.int .i64 d) S T) 47 (0,0))→Jc z w.heap.size 0 37=(JnR s t p (.int .u16 a) (.int .u16 b) S T:Array Value)∧Jc z w.heap.size 0 17=(JnH s S:Array Value)∧Jc z w.heap.size 17 17=(JnH t T:Array Value)∧z.cell? ⟨w.heap.size,0,none⟩=some (.bool s)):=Jnv fun z h=>⟨by rw[Jn _ _ _ _ _ _ _ h];simp,by rw[Jn _ _ _ _ _ _ _ h];simp,by rw[Jn _ _ _ _ _ _ _ h];simp,by rw[cell_of_row _ _ _ _ _ _ h];rfl⟩
 have hq1:wrap64 (1+(k:Int))=1+(k:Int):=IntWalk.wrap64_in _ (by omega)
 have hq2:wrap64 (cut:Int)=(cut:Int):=IntWalk.wrap64_in _ (by omega)
 have hq3:8*(1+(k:Int))=(cut:Int):=by omega
 have HQ:=Jnv (And.intro hq1 (And.intro hq2 hq3))
 clear ho henv hX hY hff HBL HST HK1 HK2 hk hpk hcut hq1 hq2 hq3
 generalize Q1 ⟨⟨s,S,t,T,p,a,b⟩,f,d⟩=er at*
 generalize spL ⟨⟨s,S,t,T,p,a,b⟩,f,d⟩=L at*
 unfold spV at*
 simp only at HPUT⊢
 have hcs:((L.length:Int)≤hI+(cut:Int))∨(hI+(cut:Int)<(L.length:Int)∧2048<L.length+8)∨(hI+(cut:Int)<(L.length:Int)∧L.length+8≤2048):=by omega
 have HCS:Hid ((decide ((L.length:Int)≤hI+(cut:Int))=true)∨(decide ((L.length:Int)≤hI+(cut:Int))=false∧decide ((L.length:Int)+8>2048)=true)∨(hI+(cut:Int)<(L.length:Int)∧L.length+8≤2048∧decide ((L.length:Int)≤hI+(cut:Int))=false∧decide ((L.length:Int)+8>2048)=false)):=Jnv (by
  rcases hcs with h|⟨h1,h2⟩|⟨h1,h2⟩
  ·exact .inl (decide_eq_true h)
  ·exact .inr (.inl ⟨decide_eq_false (by omega),decide_eq_true (by omega)⟩)
  ·exact .inr (.inr ⟨h1,h2,decide_eq_false (by omega),decide_eq_false (by omega)⟩))
 have hv1:wrap64 (hI+(cut:Int))=hI+(cut:Int):=IntWalk.wrap64_in _ (by have:=HCU.out;omega)
 have hv2:wrap64 ((L.length:Int)+8)=(L.length:Int)+8:=IntWalk.wrap64_in _ (by have:=HL8.out;omega)
 clear hcs hIb
 cases s<;>(
 first
  |rw[Jmw] at hhI
  |rw[Jmx] at hhI
 subst hhI
 have HV:=Jnv (And.intro hv1 hv2)
 clear hv1 hv2
 go_enter Tryz.func5,Tryz.ntmps5
 go_wp2_with fail
 generalize w.alloc _=w1 at*
 refine Jnx (HPUT.out _) ?_
 rintro e y1 ⟨oB,cB,rfl,hoB,hb⟩
 have BY1:=Jnv (BX0.out.go hb)
 have HRB1:=Jnv (hoB.reads HU.out)
 clear hoB hb BX0
 by_cases he:er=0
 rotate_left
 ·have he1:(er != 0)=true:=by simpa using he
  clear he
  go_wp2_with fail
  refine Jnx (Jcs _ (HE.out.below BY1.out.out)) ?_
  rintro e y2 ⟨rfl,hb⟩
  have HB:=Jnv (Jno BY1.out.out hb)
  clear hb
  go_wp2_with fail
  go_ret
  exact .mk rfl HB.out
 subst he
 have HFR1:=Jnv (HFR.out rfl)
 have HP11:=Jnv (HP1.out rfl)
 have HP21:=Jnv (HP2.out rfl)
 clear HFR HP1 HP2
 go_wp2_with fail
 refine BY1.out.ret (HPI.out _) ?_
 intro y2 hb2 BY2
 have HRB2:=Jnv (HRB1.out.below hb2)
 clear hb2 BY1 HRB1
 have hq1:=HQ.out.1
 have hq2:=HQ.out.2.1
 have hq3:=HQ.out.2.2
 have hv1:=HV.out.1
 have hv2:=HV.out.2
 have c0:=(HPT.out y2 (BY2.out.at 0 rfl)).2.2.2
 have lS:=BY2.out.lt 0 rfl
 rcases HCS.out with d1|⟨d1,d2⟩|⟨h1,h2,d1,d2⟩
 case' inl=>
  go_wp2_with fail
 case' inr.inl=>
  go_wp2_with fail
 case' inr.inr=>
  have HFR2:=Jnv (HFR1.out h1)
  have HP12:=Jnv (HP11.out h1 h2)
  have HP22:=Jnv (HP21.out h1 h2)
  clear HFR1 HP11 HP21 h1 h2
  go_wp2_with fail
 ·refine Jnx (HFR2.out _ oB cB HRB2.out) ?_
  rintro e y3 ⟨o1,c1,o2,c2,rfl,hX,hY,hb3⟩
  have BY3:=Jnv (BY2.out.go hb3)
  have HRX:=Jnv hX
  have HRY:=Jnv hY
  clear hX hY hb3 BY2 HRB2 c0 lS d1 d2 hq1 hq2 hq3 hv1 hv2
  go_wp2_with fail
  refine BY3.out.ret (HP12.out _ o1 c1 HRX.out) ?_
  intro y4 hb4 BU4
  have HRY4:=Jnv (HBP.out.2 _ _ _ _ _ (HRY.out.below hb4))
  have BY4:=Jnv (HBP.out.1 _ _ BU4.out)
  clear hb4 BU4 BY3 HRX HRY
  go_wp2_with fail
  generalize y4.alloc _=y5 at*
  obtain⟨b11,hb11⟩:∃b,b=y4.heap.size:=⟨_,rfl⟩
  rw[←hb11] at BY4⊢
  clear hb11
  refine BY4.out.ret (HP22.out _ o2 c2 HRY4.out) ?_
  intro y6 hb6 BY6
  clear hb6 BY4 HRY4
  have p11:Jc y6 b11 0 40=_:=BY6.out.part 0 rfl rfl
  have l11:=BY6.out.lt 0 rfl
  have c37:y6.cell? ⟨w.heap.size,37,none⟩=some (.int .u8 f):=BY6.out.cell 1 37 rfl rfl
  have c34:y6.cell? ⟨w.heap.size,34,none⟩=some (.int .u8 p):=BY6.out.cell 1 34 rfl rfl
  have lS:=BY6.out.lt 1 rfl
  obtain⟨pK,pA,pB,-⟩:=HPT.out y6 (BY6.out.at 1 rfl)
  have HG2:=Jnv (fun o1 o2=>BY6.out.go (Below.all (Below.all (Jny y6.heap.size y6) o1) o2))
  have HG3:=Jnv (fun o1 o2 o3=>BY6.out.go (Below.all (Below.all (Below.all (Jny y6.heap.size y6) o1) o2) o3))
  have pA2:=fun o1 o2=>(HPT.out _ ((HG2.out o1 o2).at 1 rfl)).2.1
  have pB2:=fun o1 o2=>(HPT.out _ ((HG2.out o1 o2).at 1 rfl)).2.2.1
  have c34b:∀o1 o2,((y6.alloc o1).alloc o2).cell? ⟨w.heap.size,34,none⟩=some (.int .u8 p):=fun o1 o2=>(HG2.out o1 o2).cell 1 34 rfl rfl
  have p113:∀o1 o2 o3,Jc (((y6.alloc o1).alloc o2).alloc o3) b11 0 40=_:=fun o1 o2 o3=>(HG3.out o1 o2 o3).part 0 rfl rfl
  have hq2:=HQ.out.2.1
  by_cases hcut:cut<14
  case' pos=>
   have d14:decide ((cut:Int)<14)=true:=by simp;omega
   obtain rfl:ff=0:=HF1.out hcut
   clear hcut
   go_wp2_with fail
  case' neg=>
   have d14:decide ((cut:Int)<14)=false:=by simp;omega
   obtain rfl:ff=f:=HF2.out hcut
   clear hcut
   go_wp2_with fail
  all_goals
   refine Jnx (Jcs _ (HE.out.below (Below.all (Below.all (Below.all BY6.out.out _) _) _))) ?_
   rintro e y9 ⟨rfl,hb⟩
   have HB:=Jnv (Jno (Below.all (Below.all (Below.all BY6.out.out _) _) _) hb)
   clear hb
   go_wp2_with fail
   go_ret
   exact .mk rfl HB.out
 all_goals
  refine Jnx (Jcs _ (HE.out.below BY2.out.out)) ?_
  rintro e y3 ⟨rfl,hb⟩
  have HB:=Jnv (Jno BY2.out.out hb)
  clear hb
  go_wp2_with fail
  go_ret
  exact .mk rfl HB.out)
open Go.ChangeShapes Go.WideShapes Go.ChangeAt Go.RowKit
def Jab:List (String×DataW Unit):=[("math/bits.deBruijn32tab",Rows.laid_math_bits_deBruijn32tab),("math/bits.deBruijn64tab",Rows.laid_math_bits_deBruijn64tab),("internal/strconv.uint64pow10",Rows.laid_internal_strconv_uint64pow10),("unicode/utf8.acceptRanges",Rows.laid_unicode_utf8_acceptRanges),("strconv.ErrRange",Rows.laid_strconv_ErrRange),("strconv.ErrSyntax",Rows.laid_strconv_ErrSyntax),("unicode/utf8.first",Rows.laid_unicode_utf8_first)]
def Jmy:List Int:=[0,1,56,2,57,49,28,3,61,58,42,50,38,29,17,4,62,47,59,36,45,43,51,22,53,39,33,30,24,18,12,5,63,55,48,27,60,41,37,16,46,35,44,21,52,32,23,11,54,26,40,15,34,20,31,10,25,14,19,9,13,8,7,6]
theorem Jka:(Rows.laid_math_bits_deBruijn64tab:DataW Unit)=Lib.tabData .u8 Jmy:=by kernel_rfl
theorem Jlb:(Rows.laid_internal_strconv_uint64pow10:DataW Unit)=Lib.tabData .u64 Lib.pow10Tab:=by kernel_rfl
theorem Jkb: "*"++ "errors.errorString"= "*errors.errorString":=by decide
theorem Jkc (u:TypeId)(h:Tryz.prog.typeName? 3 u=some "*errors.errorString"):u=311:=
 typeName_ptr_named (nm:= "errors.errorString") (by rw[Jkb];kernel_rfl) (by kernel_rfl) (by decide) u (by rw[Jkb];exact h)
theorem JhC {W:World}(h:laidMetH Tryz.prog Jab W)(hs:W.ShapedOpen Tryz.prog):Env W:=by
 rw[MakeChecks.laidMetH_plain _ _ _ (by kernel_rfl)] at h
 have h1:=h.tail
 have h2:=h1.tail
 have h4:=h2.tail.tail
 have h5:=h4.tail
 obtain⟨a4,s4,hv4,-⟩:=laid_sentinel h4 (g:=2) (ti:=126) (tp:=311) (te:=313) (ts:=9) (by kernel_rfl) (by kernel_rfl) Tryz.underlying126 Jkc Tryz.underlying311 Tryz.underlying313 rfl rfl Tryz.underlying9 (by kernel_rfl) (by kernel_rfl)
 obtain⟨a5,s5,hv5,-⟩:=laid_sentinel h5 (g:=1) (ti:=126) (tp:=311) (te:=313) (ts:=9) (by kernel_rfl) (by kernel_rfl) Tryz.underlying126 Jkc Tryz.underlying311 Tryz.underlying313 rfl rfl Tryz.underlying9 (by kernel_rfl) (by kernel_rfl)
 rw[Jka] at h1
 rw[Jlb] at h2
 have ht1:=Lib.tabIs_of_head (g:=7) (t:=329) (e:=5) (n:=64) (by kernel_rfl) (by kernel_rfl) Tryz.underlying329 Tryz.underlying5 (by kernel_rfl) (by kernel_rfl) h1
 have ht2:=Lib.tabIs_of_head (g:=3) (t:=315) (e:=124) (n:=20) (by kernel_rfl) (by kernel_rfl) Tryz.underlying315 Tryz.underlying124 (by kernel_rfl) (by kernel_rfl) h2
 refine⟨cell_of_shapedOpen_int (zero:=#[.int .i64 0]) (t:=3) hs (of_decide_eq_true (by kernel_rfl)) (by kernel_rfl) rfl (by kernel_rfl) (by kernel_rfl) Tryz.underlying3,⟨311,.pointer (some a5),?_⟩,⟨311,.pointer (some a4),?_⟩,ht2,?_⟩
 ·simpa using World.var?_cell (g:=1) (by kernel_rfl) hv5 0
 ·simpa using World.var?_cell (g:=2) (by kernel_rfl) hv4 0
 ·exact Lib.TabIs.cell ht1 (by kernel_rfl) 15 (by decide)
theorem JfB {H:Type}{enc:TypeId×Value→H}{a:Assume}{C:Checked}{os:Os}{f:FuncId}{fn:Func}{s:ChangeSpec}{conds:List PathCond}{apart fresh handsOn again:Bool}{X:World→Array Value→Prop}
 (hX:∀(w w':World) (args:Array Value),w.heap=w'.heap→X w args→X w' args)
 (own:ownKnob C.prog.godebug=none)(started:os.Started)(noInit:C.prog.inits.idxOf? f=none)(hfn:C.prog.funcs[f]? =some fn)
 (witness:∃(w:World) (tape:Tape) (i:Input),w.os=os∧(w.forCall tape i).Shaped C.prog∧i.vars=[]∧Input.okWide C.prog (w.forCall tape i) .any w.heap.size f i∧
   ((s.pre enc C.prog fn conds apart (w.forCall tape i).memory i.args∧X (w.forCall tape i).memory i.args)∧sizedMet enc C.prog fn (OpenSpec.ofChange s) apart (w.forCall tape i).memory i.args)∧a.holds C.prog (lone (Frame.enter C.prog f i.args .normal) [] (w.forCall tape i)))
 (contract:∀(W:World) (base:Nat) (args:Array Value) (ds gs:List (DataW H)) (before:List MemPlace),
   (∀(j:Nat) t v,fn.params[j]? =some t→args[j]? =some v→Value.okWide C.prog W .any base t v)→
   DataW.Whole enc C.prog fn.params.toList s.vars apart W args.toList ds gs before→X W args→W.ShapedOpen C.prog→
   Calls C.prog f args W fun e W'=>∃v,e=.returned v∧s.post enc C.prog fn apart fresh handsOn again W args v W'):
 ReturnsInHanded a C os f .any (fun w args=>(s.pre enc C.prog fn conds apart w args∧X w args)∧sizedMet enc C.prog fn (OpenSpec.ofChange s) apart w args) (s.post enc C.prog fn apart fresh handsOn again):=by
 refine returnsInHanded_of_calls own started noInit witness ?_
 intro w tape i _ hsh _ hok hpre hholds
 obtain⟨_,_,_,fn',hfn',_,_,_,_,hval⟩:=hok
 have e:fn'=fn:=Option.some.inj (hfn'.symm.trans hfn)
 subst e
 obtain⟨⟨⟨ds,gs,before,hw,hc⟩,hx⟩,hz⟩:=hpre
 have hw':=DataW.Whole.of_heap (w':=w.forCall tape i) (by rfl) hw
 refine(contract (w.forCall tape i) w.heap.size i.args ds gs before hval hw' (hX _ _ _ (by rfl) hx) hsh).mono fun e W' ⟨v,he,hp⟩=>?_
 subst he
 exact ChangeSpec.post_blind hp
theorem own:ownKnob Tryz.prog.godebug=none:=by kernel_rfl
theorem Jl1:laidOutB Tryz.prog=true:=by kernel_rfl
theorem Jlc (os:Os)(args:Array Value):laidMetH Tryz.prog Jab ((World.laidAll Tryz.prog os Jab).forCall (fun _ _=>0) ⟨#[],args,[]⟩).memory:=by
 rw[MakeChecks.laidMetH_plain _ _ _ (by kernel_rfl)]
 exact laidMet_laidAll _ (by kernel_rfl) (by kernel_rfl)
open Go.ChangeShapes Go.WideShapes Go.ChangeAt Go.RowKit
theorem JgK {w:World}{r:Reach}{base:Nat}{v:Value}(h:Cell.okWide Tryz.prog w r base 4 v):∃b,v=.bool b:=by
 simp only[Cell.okWide,Tryz.underlying4] at h
 cases v<;>simp_all [Cell.ok,Tryz.underlying4]
theorem JO {w:World}{r:Reach}{base:Nat}{v:Value}(h:Cell.okWide Tryz.prog w r base 5 v):∃n,v=.int .u8 n∧0≤n∧n<256:=by
 simp only[Cell.okWide,Tryz.underlying5] at h
 cases v<;>simp_all [Cell.ok,Tryz.underlying5]
 obtain⟨h1,h2⟩:=h
 have e0:IntKind.u8.min=0:=by decide
 have e1:IntKind.u8.max=255:=by decide
 simp only[IntKind.has,e0,e1] at h2
 omega
end
end Go.Proofs.YtkgjbipfhhjlpaaGreatDoor
