import Derived.Test.YtkgjbipfhhjlpaaGreatDoorMc26
set_option linter.unusedVariables false
set_option linter.unusedSimpArgs false
set_option maxRecDepth 100000
set_option maxHeartbeats 32000000
namespace Go.Proofs.YtkgjbipfhhjlpaaGreatDoor
section
open Go.RowKit Bits
theorem Jes (S T:Nat→Int)(p a b f:Int)(dn:Nat)(ho:Jey ⟨⟨false,S,false,T,p,a,b⟩,f,(dn:Int)⟩)(he:QI ⟨⟨false,S,false,T,p,a,b⟩,f,(dn:Int)⟩=0)(hp:¬(p=6∨p=17∨p=1∨p=58))(oa:Option Addr)(n cap:Nat)(w:World)(hr:Jg w oa n cap (spL ⟨⟨false,S,false,T,p,a,b⟩,f,(dn:Int)⟩)):
 Calls Tryz.prog 32 #[.agg #[.bool false,.int .u8 (S 0),.int .u8 (S 1),.int .u8 (S 2),.int .u8 (S 3),.int .u8 (S 4),.int .u8 (S 5),.int .u8 (S 6),.int .u8 (S 7),.int .u8 (S 8),.int .u8 (S 9),.int .u8 (S 10),.int .u8 (S 11),.int .u8 (S 12),.int .u8 (S 13),.int .u8 (S 14),.int .u8 (S 15),.bool false,.int .u8 (T 0),.int .u8 (T 1),.int .u8 (T 2),.int .u8 (T 3),.int .u8 (T 4),.int .u8 (T 5),.int .u8 (T 6),.int .u8 (T 7),.int .u8 (T 8),.int .u8 (T 9),.int .u8 (T 10),.int .u8 (T 11),.int .u8 (T 12),.int .u8 (T 13),.int .u8 (T 14),.int .u8 (T 15),.int .u8 p,.int .u16 a,.int .u16 b,.int .u8 f,.int .i64 (dn:Int)],.slice oa n cap] w (Jj w (.bool true)):=by
 have HR:=JoL hr
 have HOK:=JoL ho
 have hn:n≤100000:=by have:=(XD he).len;rw[←(XD he).is,hr.len] at this;omega
 obtain⟨hcl,hcm⟩:=Jjc ho he
 simp only[Int.toNat_natCast] at hcl
 have hBb:Jp (Jo ⟨⟨false,S,false,T,p,a,b⟩,f,(dn:Int)⟩):=Xt ho
 have BX0:Hid (Bx w (w.alloc (.cells (Jo0 false false p (.int .u16 a) (.int .u16 b) f (.int .i64 (dn:Int)) S T) 47)) [(w.heap.size,.cells (Jo0 false false p (.int .u16 a) (.int .u16 b) f (.int .i64 (dn:Int)) S T) 47 (0,0))]):=JoL ((Bx.start w).box _ _)
 have hD:=JiC he hp
 simp only[Int.toNat_natCast] at hD
 have h6:(p==6)=false:=by simp;omega
 have h17:(p==17)=false:=by simp;omega
 have h1:(p==1)=false:=by simp;omega
 have h58:(p==58)=false:=by simp;omega
 have HDF:=JoL hD
 clear hD
 obtain⟨e1,e2⟩:=Jlw ho he rfl
 have HBD:Hid (∀w',Jg w' oa n cap (spL ⟨⟨false,S,false,T,p,a,b⟩,f,(dn:Int)⟩)→Calls Tryz.prog 76 #[.slice oa n cap] w' (Js w' (Jo ⟨⟨false,S,false,T,p,a,b⟩,f,(dn:Int)⟩) 0)):=JoL fun w' g=>by
  have h:=ZY oa n cap _ w' g hn
  rw[e1,e2] at h
  exact h
 clear e1 e2 hr ho he hp hn
 generalize Jo ⟨⟨false,S,false,T,p,a,b⟩,f,(dn:Int)⟩=B at*
 generalize spL ⟨⟨false,S,false,T,p,a,b⟩,f,(dn:Int)⟩=L at*
 go_enter Tryz.func32,Tryz.ntmps32
 go_wp2_with fail
 generalize w.alloc _=w1 at*
 refine JoN (HBD.out _ (HR.out.below BX0.out.out)) ?_
 rintro e z ⟨oB,cB,rfl,hoB,hb⟩
 have BXZ:=JoL (BX0.out.go hb)
 have HRB:=JoL (hoB.reads hBb)
 clear hoB hb BX0 HBD
 have c0:z.cell? ⟨w.heap.size,0,none⟩=some (.bool false):=BXZ.out.cell 0 0 rfl rfl
 have c34:z.cell? ⟨w.heap.size,34,none⟩=some (.int .u8 p):=BXZ.out.cell 0 34 rfl rfl
 have c38:z.cell? ⟨w.heap.size,38,none⟩=some (.int .i64 (dn:Int)):=BXZ.out.cell 0 38 rfl rfl
 have hlt0:decide ((B.length:Int)<(dn:Int))=false:=by simp;omega
 go_wp2_with fail
 go_ret
 exact .mk (by rw[HDF.out];simp) BXZ.out.out
theorem JeR (S T:Nat→Int)(p a b f:Int)(dn:Nat)(ho:Jey ⟨⟨true,S,true,T,p,a,b⟩,f,(dn:Int)⟩)(he:QI ⟨⟨true,S,true,T,p,a,b⟩,f,(dn:Int)⟩=0)(hp:¬(p=6∨p=17∨p=1∨p=58))(oa:Option Addr)(n cap:Nat)(w:World)(hr:Jg w oa n cap (spL ⟨⟨true,S,true,T,p,a,b⟩,f,(dn:Int)⟩)):
 Calls Tryz.prog 32 #[.agg #[.bool true,.int .u8 (S 0),.int .u8 (S 1),.int .u8 (S 2),.int .u8 (S 3),.int .u8 (S 4),.int .u8 (S 5),.int .u8 (S 6),.int .u8 (S 7),.int .u8 (S 8),.int .u8 (S 9),.int .u8 (S 10),.int .u8 (S 11),.int .u8 (S 12),.int .u8 (S 13),.int .u8 (S 14),.int .u8 (S 15),.bool true,.int .u8 (T 0),.int .u8 (T 1),.int .u8 (T 2),.int .u8 (T 3),.int .u8 (T 4),.int .u8 (T 5),.int .u8 (T 6),.int .u8 (T 7),.int .u8 (T 8),.int .u8 (T 9),.int .u8 (T 10),.int .u8 (T 11),.int .u8 (T 12),.int .u8 (T 13),.int .u8 (T 14),.int .u8 (T 15),.int .u8 p,.int .u16 a,.int .u16 b,.int .u8 f,.int .i64 (dn:Int)],.slice oa n cap] w (Jj w (.bool true)):=by
 have HR:=JoL hr
 have HOK:=JoL ho
 have hn:n≤100000:=by have:=(XD he).len;rw[←(XD he).is,hr.len] at this;omega
 obtain⟨hcl,hcm⟩:=Jjc ho he
 simp only[Int.toNat_natCast] at hcl
 have hBb:Jp (Jo ⟨⟨true,S,true,T,p,a,b⟩,f,(dn:Int)⟩):=Xt ho
 have BX0:Hid (Bx w (w.alloc (.cells (Jo0 true true p (.int .u16 a) (.int .u16 b) f (.int .i64 (dn:Int)) S T) 47)) [(w.heap.size,.cells (Jo0 true true p (.int .u16 a) (.int .u16 b) f (.int .i64 (dn:Int)) S T) 47 (0,0))]):=JoL ((Bx.start w).box _ _)
 have hD:=JiC he hp
 simp only[Int.toNat_natCast] at hD
 have h6:(p==6)=false:=by simp;omega
 have h17:(p==17)=false:=by simp;omega
 have h1:(p==1)=false:=by simp;omega
 have h58:(p==58)=false:=by simp;omega
 have HDF:=JoL hD
 clear hD
 obtain⟨e1,e2,e3,e4,e5⟩:=JmN ho he rfl
 simp only at e3
 obtain⟨x1,x2,hx⟩:∃x1 x2,∀w',Jg w' oa n cap (spL ⟨⟨true,S,true,T,p,a,b⟩,f,(dn:Int)⟩)→Calls Tryz.prog 76 #[.slice oa n cap] w' (Js w' x1 x2):=⟨_,_,fun w' g=>ZY oa n cap _ w' g hn⟩
 have HBD0:=JoL hx
 obtain⟨q1,q2,q3,q4,QS,QD,hA⟩:∃u1 u2 u3 u4 V1 V2,sxA (spL ⟨⟨true,S,true,T,p,a,b⟩,f,(dn:Int)⟩)=sxF u1 u2 u3 u4 64 V1 V2:=by
  have h:=Eq.refl (sxA (spL ⟨⟨true,S,true,T,p,a,b⟩,f,(dn:Int)⟩))
  conv at h=>rhs;unfold sxA;rw[e5]
  exact⟨_,_,_,_,_,_,h⟩
 have HBD:Hid (∀w',Jg w' oa n cap (spL ⟨⟨true,S,true,T,p,a,b⟩,f,(dn:Int)⟩)→Calls Tryz.prog 54 #[.slice oa n cap] w' (fun e w2=>∃oe ce oB cB,e=.returned (.tuple #[.agg (sxF q1 q2 q3 q4 64 QS QD),.agg #[.slice oe 0 ce,.int .u8 p],.slice oB (Jo ⟨⟨true,S,true,T,p,a,b⟩,f,(dn:Int)⟩).length cB,.int .i64 0])∧Jg w2 oB (Jo ⟨⟨true,S,true,T,p,a,b⟩,f,(dn:Int)⟩).length cB (Jo ⟨⟨true,S,true,T,p,a,b⟩,f,(dn:Int)⟩)∧Below w'.heap.size w' w2)):=JoL fun w' g=>by
  refine(JcU oa n cap _ w' g hn).mono ?_
  rintro e w2 (⟨h,-⟩|⟨-,oe,ce,es,oB,cB,rfl,-,ho2,hb2,-⟩)
  ·exact absurd e1 h
  ·rw[e4] at ho2
   refine⟨oe,ce,oB,cB,?_,ho2.reads hBb,hb2⟩
   rw[hA,e2,e3,e4]
   rfl
 clear e1 e2 e3 e4 e5 hx hA hr ho he hp hn
 generalize Jo ⟨⟨true,S,true,T,p,a,b⟩,f,(dn:Int)⟩=B at*
 generalize spL ⟨⟨true,S,true,T,p,a,b⟩,f,(dn:Int)⟩=L at*
 unfold sxF at HBD
 go_enter Tryz.func32,Tryz.ntmps32
 go_wp2_with fail
 generalize w.alloc _=w1 at*
 refine JoN (HBD0.out _ (HR.out.below BX0.out.out)) ?_
 rintro e y0 ⟨oX,cX,rfl,-,hb⟩
 have BXA:=JoL (BX0.out.go hb)
 clear hb BX0 HBD0
 have c0:y0.cell? ⟨w.heap.size,0,none⟩=some (.bool true):=BXA.out.cell 0 0 rfl rfl
 go_wp2_with fail
 refine JoN (HBD.out _ (HR.out.below BXA.out.out)) ?_
 rintro e y1 ⟨oe,ce,oB,cB,rfl,hrB,hb⟩
 have BXZ:=JoL (((BXA.out.go hb).box (Jo2 q1 (.int .u32 q2) (.int .u16 q3) q4 (64:Int) QS QD) 118).box #[.slice oe 0 ce,p] 96)
 have HRB:=JoL ((hrB.alloc (.cells (Jo2 q1 (.int .u32 q2) (.int .u16 q3) q4 (64:Int) QS QD) 118)).alloc (.cells #[.slice oe 0 ce,p] 96))
 have c34:((y1.alloc (.cells (Jo2 q1 (.int .u32 q2) (.int .u16 q3) q4 (64:Int) QS QD) 118)).alloc (.cells #[.slice oe 0 ce,p] 96)).cell? ⟨w.heap.size,34,none⟩=some (.int .u8 p):=BXZ.out.cell 2 34 rfl rfl
 have c38:((y1.alloc (.cells (Jo2 q1 (.int .u32 q2) (.int .u16 q3) q4 (64:Int) QS QD) 118)).alloc (.cells #[.slice oe 0 ce,p] 96)).cell? ⟨w.heap.size,38,none⟩=some (.int .i64 (dn:Int)):=BXZ.out.cell 2 38 rfl rfl
 have hl1:w.heap.size<y1.heap.size:=JoP (BXA.out.lt 0 rfl) hb.size
 have hlt0:decide ((B.length:Int)<(dn:Int))=false:=by simp;omega
 clear hrB hb BXA HBD c0
 go_wp2_with fail
 go_ret
 exact .mk (by rw[HDF.out];simp) BXZ.out.out
theorem Jet (S T:Nat→Int)(p a b f:Int)(dn:Nat)(ho:Jey ⟨⟨false,S,false,T,p,a,b⟩,f,(dn:Int)⟩)(he:QI ⟨⟨false,S,false,T,p,a,b⟩,f,(dn:Int)⟩=0)(hp:p=6∨p=17∨p=1∨p=58)(oa:Option Addr)(n cap:Nat)(w:World)(hr:Jg w oa n cap (spL ⟨⟨false,S,false,T,p,a,b⟩,f,(dn:Int)⟩)):
 Calls Tryz.prog 32 #[.agg #[.bool false,.int .u8 (S 0),.int .u8 (S 1),.int .u8 (S 2),.int .u8 (S 3),.int .u8 (S 4),.int .u8 (S 5),.int .u8 (S 6),.int .u8 (S 7),.int .u8 (S 8),.int .u8 (S 9),.int .u8 (S 10),.int .u8 (S 11),.int .u8 (S 12),.int .u8 (S 13),.int .u8 (S 14),.int .u8 (S 15),.bool false,.int .u8 (T 0),.int .u8 (T 1),.int .u8 (T 2),.int .u8 (T 3),.int .u8 (T 4),.int .u8 (T 5),.int .u8 (T 6),.int .u8 (T 7),.int .u8 (T 8),.int .u8 (T 9),.int .u8 (T 10),.int .u8 (T 11),.int .u8 (T 12),.int .u8 (T 13),.int .u8 (T 14),.int .u8 (T 15),.int .u8 p,.int .u16 a,.int .u16 b,.int .u8 f,.int .i64 (dn:Int)],.slice oa n cap] w (Jj w (.bool true)):=by
 have HR:=JoL hr
 have HOK:=JoL ho
 have hn:n≤100000:=by have:=(XD he).len;rw[←(XD he).is,hr.len] at this;omega
 obtain⟨hcl,hcm⟩:=Jjc ho he
 simp only[Int.toNat_natCast] at hcl
 have hBb:Jp (Jo ⟨⟨false,S,false,T,p,a,b⟩,f,(dn:Int)⟩):=Xt ho
 have BX0:Hid (Bx w (w.alloc (.cells (Jo0 false false p (.int .u16 a) (.int .u16 b) f (.int .i64 (dn:Int)) S T) 47)) [(w.heap.size,.cells (Jo0 false false p (.int .u16 a) (.int .u16 b) f (.int .i64 (dn:Int)) S T) 47 (0,0))]):=JoL ((Bx.start w).box _ _)
 obtain⟨qa,qb,ha,hb,hB,hE,hD,hF⟩:=Jlx ho he hp
 simp only[Int.toNat_natCast] at hB hD
 have HSND:Hid (∀w' oB cB o1 c1 o2 c2,Jg w' oB (Jo ⟨⟨false,S,false,T,p,a,b⟩,f,(dn:Int)⟩).length cB (Jo ⟨⟨false,S,false,T,p,a,b⟩,f,(dn:Int)⟩)→Jg w' o1 4 c1 (Jc false S)→Jg w' o2 4 c2 (Jc false T)→Calls Tryz.prog 78 #[p,.slice oB (Jo ⟨⟨false,S,false,T,p,a,b⟩,f,(dn:Int)⟩).length cB,.slice o1 4 c1,.slice o2 4 c2] w' (Jj w' (.bool true))):=JoL fun w' oB cB o1 c1 o2 c2 g1 g2 g3=>by
  have hd:(JP dn).length≤2048:=by have:=(XD he).n1;simp only at this;simp[JP];omega
  have h:=JhD p qa qb (if p=6 then f else 0) hp ha hb (JP dn) (Jc false S) (Jc false T) hd oB (Jo ⟨⟨false,S,false,T,p,a,b⟩,f,(dn:Int)⟩).length cB o1 o2 4 c1 c2 w'
  rw[←hB] at h
  exact h g1 g2 g3 (by decide)
 obtain⟨sg,hsg⟩:∃sg,Jcw p (Jo ⟨⟨false,S,false,T,p,a,b⟩,f,(dn:Int)⟩)=sg:=⟨_,rfl⟩
 have HPA:Hid (∀w' oB cB,Jg w' oB (Jo ⟨⟨false,S,false,T,p,a,b⟩,f,(dn:Int)⟩).length cB (Jo ⟨⟨false,S,false,T,p,a,b⟩,f,(dn:Int)⟩)→Calls Tryz.prog 77 #[p,.slice oB (Jo ⟨⟨false,S,false,T,p,a,b⟩,f,(dn:Int)⟩).length cB] w' (XO w' (XQ sg) 0)):=JoL fun w' oB cB g=>by
  have h:=Jbp p hp oB (Jo ⟨⟨false,S,false,T,p,a,b⟩,f,(dn:Int)⟩).length cB _ w' g (by omega)
  unfold Qf at h
  rw[hE,if_pos rfl,hsg] at h
  exact h
 simp only at hD hF
 rw[hsg] at hD hF
 have HA1:Hid (∀w',Calls Tryz.prog 64 #[adV false S] w' (Jht w' 4 (Jc false S))):=JoL fun w'=>(bytes_any false S w').mono fun _ _ h=>h.n (Jm _ _) (JN ho.k.S false)
 have HA2:Hid (∀w',Calls Tryz.prog 64 #[adV false T] w' (Jht w' 4 (Jc false T))):=JoL fun w'=>(bytes_any false T w').mono fun _ _ h=>h.n (Jm _ _) (JN ho.k.T false)
 have HDF:=JoL (And.intro hD hF)
 have HPP:=JoL hp
 clear ha hb hB hE hD hF hsg
 obtain⟨e1,e2⟩:=Jlw ho he rfl
 have HBD:Hid (∀w',Jg w' oa n cap (spL ⟨⟨false,S,false,T,p,a,b⟩,f,(dn:Int)⟩)→Calls Tryz.prog 76 #[.slice oa n cap] w' (Js w' (Jo ⟨⟨false,S,false,T,p,a,b⟩,f,(dn:Int)⟩) 0)):=JoL fun w' g=>by
  have h:=ZY oa n cap _ w' g hn
  rw[e1,e2] at h
  exact h
 clear e1 e2 hr ho he hp hn
 generalize Jo ⟨⟨false,S,false,T,p,a,b⟩,f,(dn:Int)⟩=B at*
 generalize spL ⟨⟨false,S,false,T,p,a,b⟩,f,(dn:Int)⟩=L at*
 go_enter Tryz.func32,Tryz.ntmps32
 go_wp2_with fail
 generalize w.alloc _=w1 at*
 refine JoN (HBD.out _ (HR.out.below BX0.out.out)) ?_
 rintro e z ⟨oB,cB,rfl,hoB,hb⟩
 have BXZ:=JoL (BX0.out.go hb)
 have HRB:=JoL (hoB.reads hBb)
 clear hoB hb BX0 HBD
 have c0:z.cell? ⟨w.heap.size,0,none⟩=some (.bool false):=BXZ.out.cell 0 0 rfl rfl
 have c34:z.cell? ⟨w.heap.size,34,none⟩=some (.int .u8 p):=BXZ.out.cell 0 34 rfl rfl
 have c38:z.cell? ⟨w.heap.size,38,none⟩=some (.int .i64 (dn:Int)):=BXZ.out.cell 0 38 rfl rfl
 have hlt0:decide ((B.length:Int)<(dn:Int))=false:=by simp;omega
 have hcs:(p==6)=true∨((p==6)=false∧(p==17)=true)∨((p==6)=false∧(p==17)=false∧(p==1)=true)∨((p==6)=false∧(p==17)=false∧(p==1)=false∧(p==58)=true):=by
  rcases HPP.out with rfl|rfl|rfl|rfl<;>decide
 unfold XQ at HPA
 have hq1:((sg.data.length:Int)==(dn:Int))=true:=by rw[HDF.out.1];simp
 have hq2:(sg.flags==f)=true:=by rw[HDF.out.2];simp
 rcases hcs with e6|⟨e6,e17⟩|⟨e6,e17,e1⟩|⟨e6,e17,e1,e58⟩
 all_goals
  go_wp2_with fail
  refine JoN (HPA.out _ oB cB HRB.out) ?_
  rintro e z2 ⟨⟨oO,cO,oD,cD,rfl⟩,hb⟩
  have BX1:=JoL ((BXZ.out.go hb).box (Jo6 (.int .u8 sg.proto) (.int .u16 sg.src) (.int .u16 sg.dst) (.int .u32 sg.seq) (.int .u32 sg.ack) (.int .u8 sg.flags) (.int .u16 sg.win) (.int .u16 sg.urg) (.slice oO sg.opt.length cO) (.int .u8 sg.type) (.int .u8 sg.code) (.slice oD sg.data.length cD)) 149)
  have HRB1:=JoL ((HRB.out.below hb).alloc (.cells (Jo6 (.int .u8 sg.proto) (.int .u16 sg.src) (.int .u16 sg.dst) (.int .u32 sg.seq) (.int .u32 sg.ack) (.int .u8 sg.flags) (.int .u16 sg.win) (.int .u16 sg.urg) (.slice oO sg.opt.length cO) (.int .u8 sg.type) (.int .u8 sg.code) (.slice oD sg.data.length cD)) 149))
  clear hb BXZ HRB HPA c34 c38
  obtain⟨b11,hb11⟩:∃b,b=z2.heap.size:=⟨_,rfl⟩
  go_wp2_with fail
  rw[←hb11] at BX1⊢
  clear hb11
  generalize z2.alloc _=z3 at*
  have hlt:w.heap.size<z3.heap.size:=BX1.out.lt 1 rfl
  have q34:z3.cell? ⟨w.heap.size,34,none⟩=some (.int .u8 p):=BX1.out.cell 1 34 rfl rfl
  have q2:Jb z3 w.heap.size 17 17=(JoX false T:Array Value):=by rw[Jl _ _ _ _ _ _ _ (BX1.out.at 1 rfl)];simp
  refine ZJ [.h,.h,.h,.h,.h,.h,.h,.h,.h,.h,.h,.h,.h,.h,.h,.h,.h,.h,.h,.h,.h,.h,.h,.h,.h,.w,.h,.h,.h] [(18,2,0),(19,2,0),(20,2,0),(21,2,0),(26,1,0),(27,1,0),(28,1,0)] (fun _ w'=>w'.cell? ⟨w.heap.size,34,none⟩=some (.int .u8 p)∧Jb w' w.heap.size 17 17=(JoX false T:Array Value)) [2] [(.w,25),(.w,29),(.w,30),(.q,31),(.q,32)] (by kernel_rfl) (by kernel_rfl) (by kernel_rfl) (by kernel_rfl) ?_
  apply Exists.intro
  refine⟨fun wx hbx=>?_,?_,?_⟩
  ·have BXx:=JoL (BX1.out.go hbx)
   have l1:=BXx.out.lt 1 rfl
   have l0:=BXx.out.lt 0 rfl
   have x34:wx.cell? ⟨w.heap.size,34,none⟩=some (.int .u8 p):=BXx.out.cell 1 34 rfl rfl
   have x37:wx.cell? ⟨w.heap.size,37,none⟩=some (.int .u8 f):=BXx.out.cell 1 37 rfl rfl
   have x38:wx.cell? ⟨w.heap.size,38,none⟩=some (.int .i64 (dn:Int)):=BXx.out.cell 1 38 rfl rfl
   have y11:wx.cell? ⟨b11,11,none⟩=some (.slice oD sg.data.length cD):=BXx.out.cell 0 11 rfl rfl
   have y5:wx.cell? ⟨b11,5,none⟩=some (.int .u8 sg.flags):=BXx.out.cell 0 5 rfl rfl
   have p1:Jb wx w.heap.size 0 17=(JoX false S:Array Value):=by rw[Jl _ _ _ _ _ _ _ (BXx.out.at 1 rfl)];simp
   have p2:Jb wx w.heap.size 17 17=(JoX false T:Array Value):=by rw[Jl _ _ _ _ _ _ _ (BXx.out.at 1 rfl)];simp
   clear hbx
   simp only[Jx]
   repeat go_big_quiet_step (fail)
   exact wpQuiet_nil rfl
  ·intro q hq' oi hoi
   simp only[List.mem_cons,List.not_mem_nil,or_false] at hq'
   rcases hq' with rfl|rfl|rfl|rfl|rfl|rfl|rfl
   ·cases hoi;exact⟨_,rfl,rfl,fun w2 hw=>by kernel_rfl⟩
   ·cases hoi;exact⟨_,rfl,rfl,fun w2 hw=>by kernel_rfl⟩
   ·cases hoi;exact⟨_,rfl,rfl,fun w2 hw=>by simp[execOp,go_sem,hw.1]⟩
   ·cases hoi;exact⟨_,rfl,rfl,fun w2 hw=>by kernel_rfl⟩
   ·cases hoi;exact⟨_,rfl,rfl,fun w2 hw=>by kernel_rfl⟩
   ·cases hoi;exact⟨_,rfl,rfl,fun w2 hw=>by kernel_rfl⟩
   ·cases hoi;exact⟨_,rfl,rfl,fun w2 hw=>by simp[execOp,go_sem,hw.2]⟩
  simp only[J2,List.getElem?_cons_succ,List.getElem?_cons_zero]
  refine⟨fun v fl w2=>∃o1 c1,v=.slice o1 4 c1∧Jg w2 o1 4 c1 (Jc false S)∧Jg w2 oB B.length cB B∧Below z3.heap.size z3 w2,?_,?_,?_⟩
  ·refine⟨rfl,fun w' hw'=>.inr ⟨64,#[adV false S],by kernel_rfl,?_⟩⟩
   obtain⟨⟨x,rfl⟩,-⟩:=hw'
   refine(HA1.out x.world).mono ?_
   rintro e w2 ⟨o1,c1,rfl,h1,hb⟩
   exact⟨_,rfl,o1,c1,rfl,h1,(HRB1.out.later x).below hb,JoE x.below hb⟩
  ·rintro v fl g-w2 ⟨o1,c1,-,-,-,hb⟩
   exact⟨(Jf hb hlt _ rfl).trans q34,(JL hb _ 17 17 hlt).trans q2⟩
  rintro v ⟨w30,o1,c1,rfl,-⟩
  refine⟨fun v fl w2=>∃o2 c2,v=.slice o2 4 c2∧Jg w2 o1 4 c1 (Jc false S)∧Jg w2 o2 4 c2 (Jc false T)∧Jg w2 oB B.length cB B∧Below z3.heap.size z3 w2,?_,?_,?_⟩
  ·refine⟨rfl,fun w' hw'=>.inr ⟨64,#[adV false T],by kernel_rfl,?_⟩⟩
   obtain⟨o1',c1',he,h1,h3,hb1⟩:=hw'
   obtain⟨rfl,rfl⟩:o1=o1'∧c1=c1':=by simpa using he
   refine(HA2.out w').mono ?_
   rintro e w2 ⟨o2,c2,rfl,h2,hb⟩
   exact⟨_,rfl,o2,c2,rfl,h1.below hb,h2,h3.below hb,JoE hb1 hb⟩
  ·rintro v fl g-w2 ⟨o2,c2,-,-,-,-,hb⟩
   exact⟨(Jf hb hlt _ rfl).trans q34,(JL hb _ 17 17 hlt).trans q2⟩
  rintro v ⟨w31,o2,c2,rfl,-⟩
  refine⟨fun v fl w2=>v=.bool true∧Below z3.heap.size z3 w2,?_,fun _ _=>Jz rfl,?_⟩
  ·refine⟨rfl,fun w' hw'=>.inr ⟨78,#[p,.slice oB B.length cB,.slice o1 4 c1,.slice o2 4 c2],by kernel_rfl,?_⟩⟩
   obtain⟨o2',c2',he,h1,h2,h3,hb1⟩:=hw'
   obtain⟨rfl,rfl⟩:o2=o2'∧c2=c2':=by simpa using he
   refine(HSND.out w' oB cB o1 c1 o2 c2 h3 h1 h2).mono ?_
   rintro e w2 ⟨rfl,hb⟩
   exact⟨_,rfl,rfl,JoE hb1 hb⟩
  rintro v ⟨w32,rfl,-⟩
  refine⟨.bool true,⟨rfl,fun _=>by kernel_rfl⟩,?_⟩
  refine⟨.bool true,⟨rfl,fun _=>by kernel_rfl⟩,?_⟩
  rintro z5 ⟨-,hb5⟩
  have HB5:=JoL (BX1.out.go hb5).out
  clear hb5 BX1 HRB1 hlt q34 q2
  simp only[Act.put,List.setIfInBounds_toArray,List.set_cons_succ,List.set_cons_zero]
  go_wp2_with fail
  go_ret
  exact .mk rfl HB5.out
theorem JeS (S T:Nat→Int)(p a b f:Int)(dn:Nat)(ho:Jey ⟨⟨true,S,true,T,p,a,b⟩,f,(dn:Int)⟩)(he:QI ⟨⟨true,S,true,T,p,a,b⟩,f,(dn:Int)⟩=0)(hp:p=6∨p=17∨p=1∨p=58)(oa:Option Addr)(n cap:Nat)(w:World)(hr:Jg w oa n cap (spL ⟨⟨true,S,true,T,p,a,b⟩,f,(dn:Int)⟩)):
 Calls Tryz.prog 32 #[.agg #[.bool true,.int .u8 (S 0),.int .u8 (S 1),.int .u8 (S 2),.int .u8 (S 3),.int .u8 (S 4),.int .u8 (S 5),.int .u8 (S 6),.int .u8 (S 7),.int .u8 (S 8),.int .u8 (S 9),.int .u8 (S 10),.int .u8 (S 11),.int .u8 (S 12),.int .u8 (S 13),.int .u8 (S 14),.int .u8 (S 15),.bool true,.int .u8 (T 0),.int .u8 (T 1),.int .u8 (T 2),.int .u8 (T 3),.int .u8 (T 4),.int .u8 (T 5),.int .u8 (T 6),.int .u8 (T 7),.int .u8 (T 8),.int .u8 (T 9),.int .u8 (T 10),.int .u8 (T 11),.int .u8 (T 12),.int .u8 (T 13),.int .u8 (T 14),.int .u8 (T 15),.int .u8 p,.int .u16 a,.int .u16 b,.int .u8 f,.int .i64 (dn:Int)],.slice oa n cap] w (Jj w (.bool true)):=by
 have HR:=JoL hr
 have HOK:=JoL ho
 have hn:n≤100000:=by have:=(XD he).len;rw[←(XD he).is,hr.len] at this;omega
 obtain⟨hcl,hcm⟩:=Jjc ho he
 simp only[Int.toNat_natCast] at hcl
 have hBb:Jp (Jo ⟨⟨true,S,true,T,p,a,b⟩,f,(dn:Int)⟩):=Xt ho
 have BX0:Hid (Bx w (w.alloc (.cells (Jo0 true true p (.int .u16 a) (.int .u16 b) f (.int .i64 (dn:Int)) S T) 47)) [(w.heap.size,.cells (Jo0 true true p (.int .u16 a) (.int .u16 b) f (.int .i64 (dn:Int)) S T) 47 (0,0))]):=JoL ((Bx.start w).box _ _)
 obtain⟨qa,qb,ha,hb,hB,hE,hD,hF⟩:=Jlx ho he hp
 simp only[Int.toNat_natCast] at hB hD
 have HSND:Hid (∀w' oB cB o1 c1 o2 c2,Jg w' oB (Jo ⟨⟨true,S,true,T,p,a,b⟩,f,(dn:Int)⟩).length cB (Jo ⟨⟨true,S,true,T,p,a,b⟩,f,(dn:Int)⟩)→Jg w' o1 16 c1 (Jc true S)→Jg w' o2 16 c2 (Jc true T)→Calls Tryz.prog 78 #[p,.slice oB (Jo ⟨⟨true,S,true,T,p,a,b⟩,f,(dn:Int)⟩).length cB,.slice o1 16 c1,.slice o2 16 c2] w' (Jj w' (.bool true))):=JoL fun w' oB cB o1 c1 o2 c2 g1 g2 g3=>by
  have hd:(JP dn).length≤2048:=by have:=(XD he).n1;simp only at this;simp[JP];omega
  have h:=JhD p qa qb (if p=6 then f else 0) hp ha hb (JP dn) (Jc true S) (Jc true T) hd oB (Jo ⟨⟨true,S,true,T,p,a,b⟩,f,(dn:Int)⟩).length cB o1 o2 16 c1 c2 w'
  rw[←hB] at h
  exact h g1 g2 g3 (by decide)
 obtain⟨sg,hsg⟩:∃sg,Jcw p (Jo ⟨⟨true,S,true,T,p,a,b⟩,f,(dn:Int)⟩)=sg:=⟨_,rfl⟩
 have HPA:Hid (∀w' oB cB,Jg w' oB (Jo ⟨⟨true,S,true,T,p,a,b⟩,f,(dn:Int)⟩).length cB (Jo ⟨⟨true,S,true,T,p,a,b⟩,f,(dn:Int)⟩)→Calls Tryz.prog 77 #[p,.slice oB (Jo ⟨⟨true,S,true,T,p,a,b⟩,f,(dn:Int)⟩).length cB] w' (XO w' (XQ sg) 0)):=JoL fun w' oB cB g=>by
  have h:=Jbp p hp oB (Jo ⟨⟨true,S,true,T,p,a,b⟩,f,(dn:Int)⟩).length cB _ w' g (by omega)
  unfold Qf at h
  rw[hE,if_pos rfl,hsg] at h
  exact h
 simp only at hD hF
 rw[hsg] at hD hF
 have HA1:Hid (∀w',Calls Tryz.prog 64 #[adV true S] w' (Jht w' 16 (Jc true S))):=JoL fun w'=>(bytes_any true S w').mono fun _ _ h=>h.n (Jm _ _) (JN ho.k.S true)
 have HA2:Hid (∀w',Calls Tryz.prog 64 #[adV true T] w' (Jht w' 16 (Jc true T))):=JoL fun w'=>(bytes_any true T w').mono fun _ _ h=>h.n (Jm _ _) (JN ho.k.T true)
 have HDF:=JoL (And.intro hD hF)
 have HPP:=JoL hp
 clear ha hb hB hE hD hF hsg
 obtain⟨e1,e2,e3,e4,e5⟩:=JmN ho he rfl
 simp only at e3
 obtain⟨x1,x2,hx⟩:∃x1 x2,∀w',Jg w' oa n cap (spL ⟨⟨true,S,true,T,p,a,b⟩,f,(dn:Int)⟩)→Calls Tryz.prog 76 #[.slice oa n cap] w' (Js w' x1 x2):=⟨_,_,fun w' g=>ZY oa n cap _ w' g hn⟩
 have HBD0:=JoL hx
 obtain⟨q1,q2,q3,q4,QS,QD,hA⟩:∃u1 u2 u3 u4 V1 V2,sxA (spL ⟨⟨true,S,true,T,p,a,b⟩,f,(dn:Int)⟩)=sxF u1 u2 u3 u4 64 V1 V2:=by
  have h:=Eq.refl (sxA (spL ⟨⟨true,S,true,T,p,a,b⟩,f,(dn:Int)⟩))
  conv at h=>rhs;unfold sxA;rw[e5]
  exact⟨_,_,_,_,_,_,h⟩
 have HBD:Hid (∀w',Jg w' oa n cap (spL ⟨⟨true,S,true,T,p,a,b⟩,f,(dn:Int)⟩)→Calls Tryz.prog 54 #[.slice oa n cap] w' (fun e w2=>∃oe ce oB cB,e=.returned (.tuple #[.agg (sxF q1 q2 q3 q4 64 QS QD),.agg #[.slice oe 0 ce,.int .u8 p],.slice oB (Jo ⟨⟨true,S,true,T,p,a,b⟩,f,(dn:Int)⟩).length cB,.int .i64 0])∧Jg w2 oB (Jo ⟨⟨true,S,true,T,p,a,b⟩,f,(dn:Int)⟩).length cB (Jo ⟨⟨true,S,true,T,p,a,b⟩,f,(dn:Int)⟩)∧Below w'.heap.size w' w2)):=JoL fun w' g=>by
  refine(JcU oa n cap _ w' g hn).mono ?_
  rintro e w2 (⟨h,-⟩|⟨-,oe,ce,es,oB,cB,rfl,-,ho2,hb2,-⟩)
  ·exact absurd e1 h
  ·rw[e4] at ho2
   refine⟨oe,ce,oB,cB,?_,ho2.reads hBb,hb2⟩
   rw[hA,e2,e3,e4]
   rfl
 clear e1 e2 e3 e4 e5 hx hA hr ho he hp hn
 generalize Jo ⟨⟨true,S,true,T,p,a,b⟩,f,(dn:Int)⟩=B at*
 generalize spL ⟨⟨true,S,true,T,p,a,b⟩,f,(dn:Int)⟩=L at*
 unfold sxF at HBD
 go_enter Tryz.func32,Tryz.ntmps32
 go_wp2_with fail
 generalize w.alloc _=w1 at*
 refine JoN (HBD0.out _ (HR.out.below BX0.out.out)) ?_
 rintro e y0 ⟨oX,cX,rfl,-,hb⟩
 have BXA:=JoL (BX0.out.go hb)
 clear hb BX0 HBD0
 have c0:y0.cell? ⟨w.heap.size,0,none⟩=some (.bool true):=BXA.out.cell 0 0 rfl rfl
 go_wp2_with fail
 refine JoN (HBD.out _ (HR.out.below BXA.out.out)) ?_
 rintro e y1 ⟨oe,ce,oB,cB,rfl,hrB,hb⟩
 have BXZ:=JoL (((BXA.out.go hb).box (Jo2 q1 (.int .u32 q2) (.int .u16 q3) q4 (64:Int) QS QD) 118).box #[.slice oe 0 ce,p] 96)
 have HRB:=JoL ((hrB.alloc (.cells (Jo2 q1 (.int .u32 q2) (.int .u16 q3) q4 (64:Int) QS QD) 118)).alloc (.cells #[.slice oe 0 ce,p] 96))
 have c34:((y1.alloc (.cells (Jo2 q1 (.int .u32 q2) (.int .u16 q3) q4 (64:Int) QS QD) 118)).alloc (.cells #[.slice oe 0 ce,p] 96)).cell? ⟨w.heap.size,34,none⟩=some (.int .u8 p):=BXZ.out.cell 2 34 rfl rfl
 have c38:((y1.alloc (.cells (Jo2 q1 (.int .u32 q2) (.int .u16 q3) q4 (64:Int) QS QD) 118)).alloc (.cells #[.slice oe 0 ce,p] 96)).cell? ⟨w.heap.size,38,none⟩=some (.int .i64 (dn:Int)):=BXZ.out.cell 2 38 rfl rfl
 have hl1:w.heap.size<y1.heap.size:=JoP (BXA.out.lt 0 rfl) hb.size
 have hlt0:decide ((B.length:Int)<(dn:Int))=false:=by simp;omega
 clear hrB hb BXA HBD c0
 unfold XQ at HPA
 have hq1:((sg.data.length:Int)==(dn:Int))=true:=by rw[HDF.out.1];simp
 have hq2:(sg.flags==f)=true:=by rw[HDF.out.2];simp
 go_wp2_with fail
 all_goals
  first
  |(refine JoN (HPA.out _ oB cB HRB.out) ?_
    rintro e z2 ⟨⟨oO,cO,oD,cD,rfl⟩,hb⟩
    have BX1:=JoL ((BXZ.out.go hb).box (Jo6 (.int .u8 sg.proto) (.int .u16 sg.src) (.int .u16 sg.dst) (.int .u32 sg.seq) (.int .u32 sg.ack) (.int .u8 sg.flags) (.int .u16 sg.win) (.int .u16 sg.urg) (.slice oO sg.opt.length cO) (.int .u8 sg.type) (.int .u8 sg.code) (.slice oD sg.data.length cD)) 149)
    have HRB1:=JoL ((HRB.out.below hb).alloc (.cells (Jo6 (.int .u8 sg.proto) (.int .u16 sg.src) (.int .u16 sg.dst) (.int .u32 sg.seq) (.int .u32 sg.ack) (.int .u8 sg.flags) (.int .u16 sg.win) (.int .u16 sg.urg) (.slice oO sg.opt.length cO) (.int .u8 sg.type) (.int .u8 sg.code) (.slice oD sg.data.length cD)) 149))
    clear hb BXZ HRB HPA c34 c38
    obtain⟨b11,hb11⟩:∃b,b=z2.heap.size:=⟨_,rfl⟩
    go_wp2_with fail
    rw[←hb11] at BX1⊢
    clear hb11
    generalize z2.alloc _=z3 at*
    have hlt:w.heap.size<z3.heap.size:=BX1.out.lt 3 rfl
    have q34:z3.cell? ⟨w.heap.size,34,none⟩=some (.int .u8 p):=BX1.out.cell 3 34 rfl rfl
    have q2:Jb z3 w.heap.size 17 17=(JoX true T:Array Value):=by rw[Jl _ _ _ _ _ _ _ (BX1.out.at 3 rfl)];simp
    refine ZJ [.h,.h,.h,.h,.h,.h,.h,.h,.h,.h,.h,.h,.h,.h,.h,.h,.h,.h,.h,.h,.h,.h,.h,.h,.h,.w,.h,.h,.h] [(18,2,0),(19,2,0),(20,2,0),(21,2,0),(26,1,0),(27,1,0),(28,1,0)] (fun _ w'=>w'.cell? ⟨w.heap.size,34,none⟩=some (.int .u8 p)∧Jb w' w.heap.size 17 17=(JoX true T:Array Value)) [2] [(.w,25),(.w,29),(.w,30),(.q,31),(.q,32)] (by kernel_rfl) (by kernel_rfl) (by kernel_rfl) (by kernel_rfl) ?_
    apply Exists.intro
    refine⟨fun wx hbx=>?_,?_,?_⟩
    ·have BXx:=JoL (BX1.out.go hbx)
     have l1:=BXx.out.lt 3 rfl
     have l0:=BXx.out.lt 0 rfl
     have x34:wx.cell? ⟨w.heap.size,34,none⟩=some (.int .u8 p):=BXx.out.cell 3 34 rfl rfl
     have x37:wx.cell? ⟨w.heap.size,37,none⟩=some (.int .u8 f):=BXx.out.cell 3 37 rfl rfl
     have x38:wx.cell? ⟨w.heap.size,38,none⟩=some (.int .i64 (dn:Int)):=BXx.out.cell 3 38 rfl rfl
     have y11:wx.cell? ⟨b11,11,none⟩=some (.slice oD sg.data.length cD):=BXx.out.cell 0 11 rfl rfl
     have y5:wx.cell? ⟨b11,5,none⟩=some (.int .u8 sg.flags):=BXx.out.cell 0 5 rfl rfl
     have p1:Jb wx w.heap.size 0 17=(JoX true S:Array Value):=by rw[Jl _ _ _ _ _ _ _ (BXx.out.at 3 rfl)];simp
     have p2:Jb wx w.heap.size 17 17=(JoX true T:Array Value):=by rw[Jl _ _ _ _ _ _ _ (BXx.out.at 3 rfl)];simp
     clear hbx
     simp only[Jx]
     repeat go_big_quiet_step (fail)
     exact wpQuiet_nil rfl
    ·intro q hq' oi hoi
     simp only[List.mem_cons,List.not_mem_nil,or_false] at hq'
     rcases hq' with rfl|rfl|rfl|rfl|rfl|rfl|rfl
     ·cases hoi;exact⟨_,rfl,rfl,fun w2 hw=>by kernel_rfl⟩
     ·cases hoi;exact⟨_,rfl,rfl,fun w2 hw=>by kernel_rfl⟩
     ·cases hoi;exact⟨_,rfl,rfl,fun w2 hw=>by simp[execOp,go_sem,hw.1]⟩
     ·cases hoi;exact⟨_,rfl,rfl,fun w2 hw=>by kernel_rfl⟩
     ·cases hoi;exact⟨_,rfl,rfl,fun w2 hw=>by kernel_rfl⟩
     ·cases hoi;exact⟨_,rfl,rfl,fun w2 hw=>by kernel_rfl⟩
     ·cases hoi;exact⟨_,rfl,rfl,fun w2 hw=>by simp[execOp,go_sem,hw.2]⟩
    simp only[J2,List.getElem?_cons_succ,List.getElem?_cons_zero]
    refine⟨fun v fl w2=>∃o1 c1,v=.slice o1 16 c1∧Jg w2 o1 16 c1 (Jc true S)∧Jg w2 oB B.length cB B∧Below z3.heap.size z3 w2,?_,?_,?_⟩
    ·refine⟨rfl,fun w' hw'=>.inr ⟨64,#[adV true S],by kernel_rfl,?_⟩⟩
     obtain⟨⟨x,rfl⟩,-⟩:=hw'
     refine(HA1.out x.world).mono ?_
     rintro e w2 ⟨o1,c1,rfl,h1,hb⟩
     exact⟨_,rfl,o1,c1,rfl,h1,(HRB1.out.later x).below hb,JoE x.below hb⟩
    ·rintro v fl g-w2 ⟨o1,c1,-,-,-,hb⟩
     exact⟨(Jf hb hlt _ rfl).trans q34,(JL hb _ 17 17 hlt).trans q2⟩
    rintro v ⟨w30,o1,c1,rfl,-⟩
    refine⟨fun v fl w2=>∃o2 c2,v=.slice o2 16 c2∧Jg w2 o1 16 c1 (Jc true S)∧Jg w2 o2 16 c2 (Jc true T)∧Jg w2 oB B.length cB B∧Below z3.heap.size z3 w2,?_,?_,?_⟩
    ·refine⟨rfl,fun w' hw'=>.inr ⟨64,#[adV true T],by kernel_rfl,?_⟩⟩
     obtain⟨o1',c1',he,h1,h3,hb1⟩:=hw'
     obtain⟨rfl,rfl⟩:o1=o1'∧c1=c1':=by simpa using he
     refine(HA2.out w').mono ?_
     rintro e w2 ⟨o2,c2,rfl,h2,hb⟩
     exact⟨_,rfl,o2,c2,rfl,h1.below hb,h2,h3.below hb,JoE hb1 hb⟩
    ·rintro v fl g-w2 ⟨o2,c2,-,-,-,-,hb⟩
     exact⟨(Jf hb hlt _ rfl).trans q34,(JL hb _ 17 17 hlt).trans q2⟩
    rintro v ⟨w31,o2,c2,rfl,-⟩
    refine⟨fun v fl w2=>v=.bool true∧Below z3.heap.size z3 w2,?_,fun _ _=>Jz rfl,?_⟩
    ·refine⟨rfl,fun w' hw'=>.inr ⟨78,#[p,.slice oB B.length cB,.slice o1 16 c1,.slice o2 16 c2],by kernel_rfl,?_⟩⟩
     obtain⟨o2',c2',he,h1,h2,h3,hb1⟩:=hw'
     obtain⟨rfl,rfl⟩:o2=o2'∧c2=c2':=by simpa using he
     refine(HSND.out w' oB cB o1 c1 o2 c2 h3 h1 h2).mono ?_
     rintro e w2 ⟨rfl,hb⟩
     exact⟨_,rfl,rfl,JoE hb1 hb⟩
    rintro v ⟨w32,rfl,-⟩
    refine⟨.bool true,⟨rfl,fun _=>by kernel_rfl⟩,?_⟩
    refine⟨.bool true,⟨rfl,fun _=>by kernel_rfl⟩,?_⟩
    rintro z5 ⟨-,hb5⟩
    have HB5:=JoL (BX1.out.go hb5).out
    clear hb5 BX1 HRB1 hlt q34 q2
    simp only[Act.put,List.setIfInBounds_toArray,List.set_cons_succ,List.set_cons_zero]
    go_wp2_with fail
    go_ret
    exact .mk rfl HB5.out)
  |(exact absurd HPP.out (by intro h;have a6:(p==6)=false:=(by assumption);have a17:(p==17)=false:=(by assumption);have a1:(p==1)=false:=(by assumption);have a58:(p==58)=false:=(by assumption);simp only[beq_eq_false_iff_ne,ne_eq] at a6 a17 a1 a58;omega))
theorem JhE (s:Sp)(ho:Jey s)(he:QI s=0)(oa:Option Addr)(n cap:Nat)(w:World)(hr:Jg w oa n cap (spL s)):
 Calls Tryz.prog 32 #[.agg (spV s),.slice oa n cap] w (Jj w (.bool true)):=by
 have hy:=XD he
 obtain⟨⟨s,S,t,T,p,a,b⟩,f,d⟩:=s
 have hst:s=t:=hy.st
 subst hst
 obtain⟨dn,hd⟩:=Int.eq_ofNat_of_zero_le hy.n0
 simp only at hd
 subst hd
 by_cases hp:p=6∨p=17∨p=1∨p=58
 ·cases s
  ·exact Jet S T p a b f dn ho he hp oa n cap w hr
  ·exact JeS S T p a b f dn ho he hp oa n cap w hr
 ·cases s
  ·exact Jes S T p a b f dn ho he hp oa n cap w hr
  ·exact JeR S T p a b f dn ho he hp oa n cap w hr
end
end Go.Proofs.YtkgjbipfhhjlpaaGreatDoor
