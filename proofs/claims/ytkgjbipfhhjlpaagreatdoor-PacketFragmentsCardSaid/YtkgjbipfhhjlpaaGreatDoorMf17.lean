import Derived.Test.YtkgjbipfhhjlpaaGreatDoorMf16
set_option linter.unusedVariables false
set_option linter.unusedSimpArgs false
set_option maxRecDepth 100000
set_option maxHeartbeats 32000000
namespace Go.Proofs.YtkgjbipfhhjlpaaGreatDoor
section
open Go.RowKit Bits
theorem JaG (p n:Int)(src dst:List Int)(h1:Jm src)(h2:Jm dst)(hp:0≤p∧p<256):Jm (J1 p n src dst):=by
 have hpp:Jm [0,p]:=by intro v hv;simp only[List.mem_cons,List.not_mem_nil,or_false] at hv;rcases hv with rfl|rfl;decide;exact hp
 have hp4:Jm [0,0,0,p]:=by intro v hv;simp only[List.mem_cons,List.not_mem_nil,or_false] at hv;rcases hv with rfl|rfl|rfl|rfl;decide;decide;decide;exact hp
 have hz2:Jm [0,0]:=by intro v hv;simp only[List.mem_cons,List.not_mem_nil,or_false] at hv;rcases hv with rfl|rfl<;>decide
 unfold J1
 split
 ·intro v hv;cases hv
 ·split
  ·exact Je (Je (Je h1 h2) hpp) (Jt _)
  ·exact Je (Je (Je (Je h1 h2) hz2) (Jt _)) hp4
theorem JkP (a b:Int)(oD:Option Addr)(n cD:Nat)(l:List Int)(o1 o2:Option Addr)(k c1 c2:Nat)(src dst:List Int)(w:World)(hr:Jj w oD n cD l)(h1:Jj w o1 k c1 src)(h2:Jj w o2 k c2 dst)(hk:k=4∨k=16)(hn:n≤60000)(ha:0≤a∧a<65536)(hb:0≤b∧b<65536):
 Calls Tryz.prog 94 #[.agg (QA 17 a b 0 0 0 oD n cD),.slice o1 k c1,.slice o2 k c2] w (Jq w (Jaf 17 a b 0 l src dst) 0):=by
 have hR0:=Jnv hr
 have hnl:=hr.len
 have hnl':=hr.len
 have HLK:Hid (∀r w',w'.heap[r]? =some (.map Qa 4)→(Instr.lookup 224 (.map (some r)) (.int .u8 17) true).run Tryz.prog w'=.ok (.tuple #[.agg #[.int .i64 8,.int .i64 6,.func (.func 187) #[] #[],.func (.func 188) #[] #[],.func (.func 189) #[] #[]],true]) w'):=Jnv (fun r w' h=>Qx 17 (.inr (.inl rfl)) r w' h)
 have HRT:Hid (∀w',Jj w' oD n cD l→Calls Tryz.prog 152 #[.agg #[.int .u8 17,.int .u16 a,.int .u16 b,.int .u32 0,.int .u32 0,.int .u8 0,.int .u16 0,.int .u16 0,.slice none 0 0,.int .u8 0,.int .u8 0,.slice oD n cD]] w' (Jk w' (.bool true))):=Jnv (fun w' h=>by have:=Jiz a b oD n cD l w' h hn;unfold QA at this;exact this)
 have HTL:Hid (∀w',Calls Tryz.prog 138 #[.agg #[.int .i64 8,.int .i64 6,.func (.func 187) #[] #[],.func (.func 188) #[] #[],.func (.func 189) #[] #[]],.agg #[.int .u8 17,.int .u16 a,.int .u16 b,.int .u32 0,.int .u32 0,.int .u8 0,.int .u16 0,.int .u16 0,.slice none 0 0,.int .u8 0,.int .u8 0,.slice oD n cD]] w' (Jk w' (.int .i64 (8+(n:Int))))):=Jnv (fun w'=>XJ 8 _ _ _ _ 17 a b 0 0 0 oD n cD w' (by decide) (by omega))
 have HPS:Hid (∀w',Below w.heap.size w w'→Calls Tryz.prog 139 #[(17:Int),.int .i64 (8+(n:Int)),.slice o1 k c1,.slice o2 k c2] w' (ZO w' (J1 17 (8+(n:Int)) src dst))):=Jnv (fun w' hb=>by
  have g1:=h1.below hb
  have g2:=h2.below hb
  rcases hk with rfl|rfl
  ·exact Jbp 17 _ o1 o2 c1 c2 src dst w' g1 g2 (by omega) (by omega)
  ·exact Jco 17 _ o1 o2 c1 c2 src dst w' g1 g2 (by omega) (by omega))
 have HPB:Hid (Jm (J1 17 (8+(n:Int)) src dst)):=Jnv (JaG _ _ _ _ h1.byte h2.byte (by omega))
 have HPL:Hid ((J1 17 (8+(n:Int)) src dst).length≤100):=Jnv (by
  have e1:=h1.len
  have e2:=h2.len
  unfold J1
  split
  ·simp
  ·split<;>simp only[List.length_append,be2,List.length_cons,List.length_nil]<;>omega)
 have HPUT:Hid (∀p0 w',WrK w' p0 (fun _=>False) []→Calls Tryz.prog 188 #[.pointer (some ⟨p0,0,none⟩),.agg #[.int .u8 17,.int .u16 a,.int .u16 b,.int .u32 0,.int .u32 0,.int .u8 0,.int .u16 0,.int .u16 0,.slice none 0 0,.int .u8 0,.int .u8 0,.slice oD n cD]] w' (Z7 w' p0 (fun _=>False) (Qg 2 [a,b,8+(n:Int),0]))):=Jnv (fun p0 w' h=>by
  have:=by have:=Jir p0 _ 17 a b 0 0 0 oD n cD [] w' h ha hb (by omega) (by simp);unfold QA at this;exact this
  simpa[List.nil_append] using this)
 have HST:Hid ((Qg 2 [a,b,8+(n:Int),0])++l=Jo 17 a b 0 (8+(n:Int)) 0 l):=Jnv (by unfold Jo;simp[Qg,Jek,be2])
 have HLL:Hid ((Qg 2 [a,b,8+(n:Int),0]).length=8):=Jnv (by simp[Qg,Jek,be2,be4])
 have HLN:Hid (∀c:Int,(Jo 17 a b 0 (8+(n:Int)) c l).length=8+n):=Jnv (fun c=>by unfold Jo;simp[be2,hnl];omega)
 have HSB:Hid (Jm (Jo 17 a b 0 (8+(n:Int)) 0 l)):=Jnv (by unfold Jo;simp only[if_neg (show¬(17:Int)=6 by decide),if_true];exact Je (Je (Je (Je (Jt _) (Jt _)) (Jt _)) (Jt _)) hr.byte)
 have HSET:Hid (∀c:Nat,(Jo 17 a b 0 (8+(n:Int)) 0 l).take 6++be2 (c:Int)++(Jo 17 a b 0 (8+(n:Int)) 0 l).drop (6+2)=Jo 17 a b 0 (8+(n:Int)) (c:Int) l):=Jnv (fun c=>by unfold Jo;simp[be2])
 have HFIN:Hid (Jaf 17 a b 0 l src dst=Jo 17 a b 0 (8+(n:Int)) (if sumOf (J1 17 (8+(n:Int)) src dst++Jo 17 a b 0 (8+(n:Int)) 0 l)=0∧17=17 then 65535 else (sumOf (J1 17 (8+(n:Int)) src dst++Jo 17 a b 0 (8+(n:Int)) 0 l):Int)) l):=Jnv (by
  unfold Jaf Jmz
  rw[show((JcJ 17+l.length:Nat):Int)=8+(n:Int) by rw[hnl];unfold JcJ;simp]
  simp)
 have hx:=heap_alloc_new w (.cells (QA 17 a b 0 0 0 oD n cD) 149)
 have hB:Below w.heap.size w (w.alloc (.cells (QA 17 a b 0 0 0 oD n cD) 149)):=Below.all (Jny _ _) _
 unfold QA at hx hB⊢
 clear hr h1 h2 hk hnl
 go_enter Tryz.func94,Tryz.ntmps94
 go_wp2_with fail
 obtain⟨b0,hb0e⟩:∃b,b=w.heap.size:=⟨_,rfl⟩
 rw[←hb0e] at hx⊢
 have HE0:=Jnv hb0e
 clear hb0e
 generalize hy:w.alloc (.cells (JnN (17:Int) (.int .u16 a) (.int .u16 b) (.slice oD n cD)) 149)=y at*
 have hb0:b0<y.heap.size:=(Jnw hx).1
 have hc0:y.cell? ⟨b0,0,none⟩=some (.int .u8 17):=cell_of_row _ _ 0 _ _ (0,0) hx
 have HX:=Jnv hx
 have HB:=Jnv hB
 clear hx hB hy
 refine JG [.w,.h,.h] [(1,1,0),(2,1,0)] (fun _ w'=>w'.cell? ⟨b0,0,none⟩=some (.int .u8 17)) [1] [(.w,0),(.w,3),(.q,4),(.q,5),(.q,6)] [(.w,8),(.q,9)] 7 (.cells #[.int .i64 0,.int .i64 0,.nilFunc,.nilFunc,.nilFunc] 222) (by kernel_rfl) (by kernel_rfl) rfl rfl ⟨fun _=>rfl,fun _ _=>by kernel_rfl⟩ (by kernel_rfl) (by kernel_rfl) ?_
 apply Exists.intro
 refine⟨fun wx hbx=>?_,?_,?_⟩
 ·have hcx:wx.cell? ⟨b0,0,none⟩=some (.int .u8 17):=(Jg hbx hb0 _ rfl).trans hc0
  have hbx2:b0<wx.heap.size:=Jnz hb0 hbx.size
  simp only[Ju]
  repeat go_big_quiet_step (fail)
  exact wpQuiet_nil rfl
 ·intro q hq oi hoi
  simp only[List.mem_cons,List.not_mem_nil,or_false] at hq
  rcases hq with rfl|rfl
  ·cases hoi;exact⟨_,rfl,rfl,fun w2 hw=>by kernel_rfl⟩
  ·cases hoi;exact⟨_,rfl,rfl,fun w2 hw=>by simp[execOp,go_sem,hw]⟩
 simp only[JY,List.getElem?_cons_succ,List.getElem?_cons_zero]
 refine⟨fun v fl w2=>∃r,v=.map (some r)∧XX y r fl w2,?_,?_,?_,?_⟩
 ·rintro fl-
  refine⟨rfl,fun w' hw'=>.inr ⟨136,#[],by kernel_rfl,?_⟩⟩
  obtain⟨⟨x,rfl⟩,hfb⟩:=hw'
  refine(J5 x.world).mono ?_
  rintro e w2 ⟨r,rfl,hr1,hr2,hb2⟩
  refine⟨_,rfl,r,rfl,Jno x.below hb2,Nat.le_trans x.below.size hr1,hr2,fun b hb'=>⟨(hfb b hb').1,?_⟩⟩
  have:=(hfb b hb').2
  exact(hb2.block b (Jnw this).1).trans this
 ·rintro v fl g-w2 ⟨r,-,hst⟩
  exact(Jg hst.1 hb0 _ rfl).trans hc0
 ·rintro-v w2 ⟨r,rfl,h1,h2,h3,-⟩
  exact⟨r,rfl,Below.all h1 _,h2,(heap_alloc_old _ _ (Jnw h3).1).trans h3,fun b hb'=>by cases hb';exact⟨h1.size,heap_alloc_new _ _⟩⟩
 rintro v ⟨fl0,w20,r,rfl,-⟩
 refine⟨fun v fl w2=>v=.tuple #[.agg #[.int .i64 8,.int .i64 6,.func (.func 187) #[] #[],.func (.func 188) #[] #[],.func (.func 189) #[] #[]],true]∧XX y r fl w2,?_,fun _ _=>Jz rfl,?_,?_⟩
 ·rintro fl-
  refine Jv.made rfl ?_
  rintro w' ⟨r',hr',hst⟩
  cases hr'
  exact⟨.tuple #[.agg #[.int .i64 8,.int .i64 6,.func (.func 187) #[] #[],.func (.func 188) #[] #[],.func (.func 189) #[] #[]],true],w',QH _ _ (vm:=.map (some r)) (vx:=.int .u8 17) (by kernel_rfl) (by kernel_rfl) (HLK.out r w' hst.2.2.1),rfl,hst⟩
 ·rintro-v w2 ⟨h0,h1,h2,h3,-⟩
  exact⟨h0,Below.all h1 _,h2,(heap_alloc_old _ _ (Jnw h3).1).trans h3,fun b hb'=>by cases hb';exact⟨h1.size,heap_alloc_new _ _⟩⟩
 rintro v ⟨fl1,w21,rfl,-⟩
 refine⟨.tuple #[.agg #[.int .i64 8,.int .i64 6,.func (.func 187) #[] #[],.func (.func 188) #[] #[],.func (.func 189) #[] #[]],true],⟨rfl,fun _=>by kernel_rfl⟩,?_⟩
 refine⟨.agg #[.int .i64 8,.int .i64 6,.func (.func 187) #[] #[],.func (.func 188) #[] #[],.func (.func 189) #[] #[]],⟨rfl,fun _=>by kernel_rfl⟩,?_⟩
 refine⟨.bool true,⟨rfl,fun _=>by kernel_rfl⟩,?_⟩
 intro bp
 refine⟨fun v fl w2=>v=undef∧Below y.heap.size y w2∧y.heap.size≤bp∧w2.heap[bp]? =some (.cells #[.int .i64 8,.int .i64 6,.func (.func 187) #[] #[],.func (.func 188) #[] #[],.func (.func 189) #[] #[]] 222 (0,0)),?_,fun _ _=>Jz rfl,(fun h=>by cases h),?_⟩
 ·rintro fl rfl
  refine Jv.skip rfl ?_
  rintro w' ⟨-,hst⟩
  obtain⟨hbge,hbx⟩:=hst.2.2.2 bp rfl
  exact⟨_,Xt _ w' bp #[.int .i64 8,.int .i64 6,.func (.func 187) #[] #[],.func (.func 188) #[] #[],.func (.func 189) #[] #[]] (by kernel_rfl) (by kernel_rfl) (by rw[Jd _ _ _ _ _ hbx];rfl) rfl rfl,hst.1.trans (Jf _ hbge),hbge,Jh hbx⟩
 rintro v ⟨fl2,w22,rfl,-⟩
 refine⟨.bool true,⟨rfl,fun _=>by kernel_rfl⟩,?_⟩
 rintro zz ⟨-,hzz,hbge,hpz⟩
 have HZ:=Jnv (Jno HB.out hzz)
 have HXZ:=Jnv ((hzz.block b0 hb0).trans HX.out)
 have HPZ:=Jnv hpz
 have hbpz:bp<zz.heap.size:=(Jnw hpz).1
 have hb0z:b0<zz.heap.size:=Jnz hb0 hzz.size
 have hne:bp≠b0:=by omega
 have hpt:Jc zz b0 0 12=(JnN (17:Int) (.int .u16 a) (.int .u16 b) (.slice oD n cD):Array Value):=Jb HXZ.out rfl
 clear hzz hpz hbge hc0 hb0 w20 w21 w22 fl0 fl1 fl2 HX HB HLK
 unfold QQ
 go_wp2_with fail
 refine Jnx (HRT.out zz (hR0.out.below HZ.out)) ?_
 rintro e y2 ⟨rfl,hb2⟩
 have HZ2:=Jnv (Jno HZ.out hb2)
 have HXZ2:=Jnv ((hb2.block b0 hb0z).trans HXZ.out)
 have HPZ2:=Jnv ((hb2.block bp hbpz).trans HPZ.out)
 clear hb2 hpt hbpz hb0z HZ HXZ HPZ HRT
 go_wp2_with fail
 have hb02:b0<y2.heap.size:=(Jnw HXZ2.out).1
 have hbp2:bp<y2.heap.size:=(Jnw HPZ2.out).1
 refine J0 [.h,.h,.h,.h,.h,.h,.h] [] (fun _ _=>True) [] [(.w,7),(.q,8),(.q,9),(.q,10),(.q,11),(.q,12)] (by kernel_rfl) (by kernel_rfl) (by kernel_rfl) (by kernel_rfl) ?_
 apply Exists.intro
 refine⟨fun wx hbx=>?_,by simp,?_⟩
 ·have hbx2:b0<wx.heap.size:=Jnz hb02 hbx.size
  have hbx3:bp<wx.heap.size:=Jnz hbp2 hbx.size
  have hxx:=(hbx.block b0 hb02).trans HXZ2.out
  have hcx:wx.cell? ⟨b0,0,none⟩=some (.int .u8 17):=cell_of_row _ _ 0 _ _ (0,0) hxx
  have hpt0:Jc wx b0 0 12=(JnN (17:Int) (.int .u16 a) (.int .u16 b) (.slice oD n cD):Array Value):=Jb hxx rfl
  have hptp:Jc wx bp 0 5=#[.int .i64 8,.int .i64 6,.func (.func 187) #[] #[],.func (.func 188) #[] #[],.func (.func 189) #[] #[]]:=Jb ((hbx.block bp hbp2).trans HPZ2.out) rfl
  have hld:∀x:JC wx,Q5 Tryz.prog 149 x.world (.pointer (some ⟨b0,0,none⟩))=.ok (.value (.agg (JnN (17:Int) (.int .u16 a) (.int .u16 b) (.slice oD n cD)))) x.world:=fun x=>by
   have e:Jc x.world b0 0 12=_:=(JC.part x b0 0 12 hbx2).trans hpt0
   rw[QV x.world b0 0 (by rw[e];rfl),e]
  have hldp:∀x:JC wx,Q5 Tryz.prog 222 x.world (.pointer (some ⟨bp,0,none⟩))=.ok (.value (.agg #[.int .i64 8,.int .i64 6,.func (.func 187) #[] #[],.func (.func 188) #[] #[],.func (.func 189) #[] #[]])) x.world:=fun x=>by
   have e:Jc x.world bp 0 5=_:=(JC.part x bp 0 5 hbx3).trans hptp
   rw[Zy x.world bp 0 (by rw[e];rfl),e]
  clear hxx hbx
  simp only[Ju]
  repeat go_big_quiet_step ((go_at_call 138;exact JJ (HTL.out _)))
  exact wpQuiet_nil rfl
 simp only[JY,List.getElem?_cons_succ,List.getElem?_cons_zero]
 generalize hPL:J1 17 (8+(n:Int)) src dst=PL at*
 clear hPL
 refine⟨fun v fl w2=>∃oP cP,v=.tuple #[.slice oP PL.length cP,true]∧JI w2 y2.heap.size 1 oP PL.length cP (PL.map (.int .u8))∧Below y2.heap.size y2 w2,?_,fun _ _=>Xf,(fun h=>by cases h),?_⟩
 ·rintro fl rfl
  refine⟨rfl,fun w' hw'=>.inr ⟨139,#[(17:Int),.int .i64 (8+(n:Int)),.slice o1 k c1,.slice o2 k c2],by kernel_rfl,?_⟩⟩
  obtain⟨⟨x,rfl⟩,-⟩:=hw'
  refine(HPS.out x.world (Jno HZ2.out x.below)).mono ?_
  rintro e w2 ⟨oP,cP,rfl,ho,hb⟩
  exact⟨_,rfl,oP,cP,rfl,ho.mono x.below.size,Jno x.below hb⟩
 rintro v ⟨fl3,w23,oP,cP,rfl,-⟩
 refine⟨.tuple #[.slice oP PL.length cP,true],⟨rfl,fun _=>by kernel_rfl⟩,?_⟩
 refine⟨.slice oP PL.length cP,⟨rfl,fun _=>by kernel_rfl⟩,?_⟩
 refine⟨.bool true,⟨rfl,fun _=>by kernel_rfl⟩,?_⟩
 refine⟨.slice oP PL.length cP,⟨rfl,fun _=>by kernel_rfl⟩,?_⟩
 refine⟨.bool true,⟨rfl,fun _=>by kernel_rfl⟩,?_⟩
 rintro y3 ⟨oP',cP',he,hoP,hb3⟩
 obtain⟨rfl,rfl⟩:oP=oP'∧cP=cP':=by simpa using he
 clear he w23 fl3
 have HZ3:=Jnv (Jno HZ2.out hb3)
 have hx3:=(hb3.block b0 hb02).trans HXZ2.out
 have hp3:=(hb3.block bp hbp2).trans HPZ2.out
 have hb03:b0<y3.heap.size:=(Jnw hx3).1
 have hbp3:bp<y3.heap.size:=(Jnw hp3).1
 have HOP:=Jnv hoP
 have HXZ3:=Jnv hx3
 have HPZ3:=Jnv hp3
 obtain⟨p0,hp0⟩:∃p0,p0=y3.heap.size:=⟨_,rfl⟩
 have hW:WrK (y3.alloc (.cells #[JnE] 137)) y3.heap.size (fun _=>False) []:=by
  refine WrK.new ?_ ?_ ?_ ?_
  ·simp
  ·simp
  ·simp
  ·intro b hb;cases hb
 have HW:=Jnv hW
 have hBA:Below y3.heap.size y3 (y3.alloc (.cells #[JnE] 137)):=Below.all (Jny _ _) _
 have hc3:(y3.alloc (.cells #[JnE] 137)).cell? ⟨bp,3,none⟩=some (.func (.func 188) #[] #[]):=(World.cell?_of_block (a:=⟨bp,3,none⟩) (hBA.block bp hbp3)).trans (cell_of_row _ _ 3 _ _ (0,0) hp3)
 have hc3':y3.cell? ⟨bp,3,none⟩=some (.func (.func 188) #[] #[]):=cell_of_row _ _ 3 _ _ (0,0) hp3
 have hpt:Jc (y3.alloc (.cells #[JnE] 137)) b0 0 12=(JnN (17:Int) (.int .u16 a) (.int .u16 b) (.slice oD n cD):Array Value):=Jb ((hBA.block b0 hb03).trans hx3) rfl
 have hpt':Jc y3 b0 0 12=(JnN (17:Int) (.int .u16 a) (.int .u16 b) (.slice oD n cD):Array Value):=Jb hx3 rfl
 have HBA:=Jnv hBA
 clear hW hBA hb3 hoP hx3 hp3 HXZ2 HPZ2 HZ2 hb02 hbp2 HPS
 go_wp2_with fail
 rw[←hp0] at HW HBA⊢
 generalize y3.alloc (.cells #[JnE] 137)=y4 at*
 refine Jnx (HPUT.out p0 y4 HW.out) ?_
 rintro e y5 ⟨rfl,hw5,hb5,-⟩
 have hb35:=HBA.out.trans hb5
 rw[←hp0] at hb03 hbp3
 have hwp:w.heap.size≤p0:=by rw[hp0];exact HZ3.out.size
 have HZ5:=Jnv (HZ3.out.trans (hb35.mono hwp))
 have HXZ5:=Jnv ((hb35.block b0 hb03).trans HXZ3.out)
 have HPZ5:=Jnv ((hb35.block bp hbp3).trans HPZ3.out)
 have HRP:=Jnv ((HOP.out.reads HPB.out).belowB hb35 (fun a e=>by rw[hp0];exact(HOP.out.lt e).2))
 have HAP:Hid (∀a,oP=some a→a.block<p0):=Jnv (fun a e=>by rw[hp0];exact(HOP.out.lt e).2)
 have HW5:=Jnv hw5
 have hc11:y5.cell? ⟨b0,11,none⟩=some (.slice oD n cD):=cell_of_row _ _ 11 _ _ (0,0) HXZ5.out
 clear hw5 hb5 hb35 hc3 hc3' hpt hpt' HW HBA HXZ3 HPZ3 HOP HZ3 HPUT hp0
 go_wp2_with fail
 refine Jnx (X6 p0 _ _ oD n cD l y5 HW5.out (hR0.out.below HZ5.out) (by rw[HLL.out,hnl'];omega)) ?_
 rintro e y6 ⟨rfl,hw6,hb6,-⟩
 rw[HST.out] at hw6
 have HW6:=Jnv hw6
 have HZ6:=Jnv (HZ5.out.trans (hb6.mono hwp))
 have HXZ6:=Jnv ((hb6.block b0 hb03).trans HXZ5.out)
 have HPZ6:=Jnv ((hb6.block bp hbp3).trans HPZ5.out)
 have HRP6:=Jnv (HRP.out.belowB hb6 HAP.out)
 clear hw6 hb6 HW5 HZ5 HXZ5 HPZ5 HRP hc11
 go_wp2_with fail
 refine Jnx (Bits.bytes_any p0 _ y6 HW6.out.wr (by have:=HLN.out 0;omega)) ?_
 rintro e y7 ⟨ob,cb,rfl,ho7,hb7⟩
 have hbx:=hb7.mono (Nat.le_of_lt HW6.out.lt)
 have HR7:=Jnv (ho7.reads HSB.out)
 have HA7:Hid (∀a,ob=some a→a.block<y7.heap.size):=Jnv (fun a e=>(ho7.lt e).2)
 have HW7:=Jnv (HW6.out.below hb7)
 have HZ7:=Jnv (HZ6.out.trans (hbx.mono hwp))
 have HXZ7:=Jnv ((hbx.block b0 hb03).trans HXZ6.out)
 have HPZ7:=Jnv ((hbx.block bp hbp3).trans HPZ6.out)
 have HRP7:=Jnv (HRP6.out.below hb7)
 have hp07:p0<y7.heap.size:=Jnz HW6.out.lt hb7.size
 have HLS:=Jnv (HLN.out 0)
 have HRU:=Jnv (JbP 22 HRP7.out HR7.out (by have:=HPL.out;omega) (by have:=HLS.out;omega) (fun a e=>Nat.lt_trans (HAP.out a e) hp07) HA7.out)
 clear ho7 hb7 hbx HW6 HZ6 HXZ6 HPZ6 HRP6
 go_wp2_with fail
 refine Jnx (Jaw _ 2 2 _ _ HRU.out (by decide)) ?_
 rintro e y8 ⟨rfl,hb8⟩
 have hb78:=Jno (Below.all (Jny y7.heap.size y7) (.cells #[.slice oP PL.length cP,.slice ob (Jo 17 a b 0 (8+(n:Int)) 0 l).length cb] 22)) hb8
 have HW8:=Jnv (HW7.out.below hb78)
 have HZ8:=Jnv (Jno HZ7.out hb78)
 have HXZ8:=Jnv ((hb78.block b0 (Nat.lt_trans hb03 hp07)).trans HXZ7.out)
 have HPZ8:=Jnv ((hb78.block bp (Nat.lt_trans hbp3 hp07)).trans HPZ7.out)
 rw[show[PL,Jo 17 a b 0 (8+(n:Int)) 0 l].flatten=PL++Jo 17 a b 0 (8+(n:Int)) 0 l by simp]
 have hsm:=JaO (PL++Jo 17 a b 0 (8+(n:Int)) 0 l)
 generalize sumOf (PL++Jo 17 a b 0 (8+(n:Int)) 0 l)=sm at*
 have hc0:y8.cell? ⟨b0,0,none⟩=some (.int .u8 17):=cell_of_row _ _ 0 _ _ (0,0) HXZ8.out
 have hc1:y8.cell? ⟨bp,1,none⟩=some (.int .i64 6):=cell_of_row _ _ 1 _ _ (0,0) HPZ8.out
 clear hb8 hb78 HRU HW7 HZ7 HXZ7 HPZ7 HRP7 HR7 HA7
 have hsm0:(0:Int)≤(sm:Int):=Int.natCast_nonneg _
 have hsm1:(sm:Int)<65536:=by omega
 by_cases hz:sm=0
 ·subst hz
  have HF2:Hid (Jaf 17 a b 0 l src dst=Jo 17 a b 0 (8+(n:Int)) ((65535:Nat):Int) l):=Jnv (by rw[HFIN.out];simp)
  go_wp2_with fail
  refine Jnx (Z4 p0 _ 6 65535 (by decide) (by decide) y8 HW8.out.wr (by have:=HLS.out;omega) (by have:=HLS.out;omega)) ?_
  rintro e y9 ⟨rfl,hw9,hb9⟩
  have hw9':Wr y9 p0 (Jo 17 a b 0 (8+(n:Int)) ((65535:Nat):Int) l):=by
   have e:=HSET.out 65535
   rw[show((65535:Nat):Int)=65535 from rfl] at e⊢
   rw[e] at hw9
   exact hw9
  have HW9:=Jnv hw9'
  clear hw9'
  have HB9:=Jnv (HZ8.out.trans (hb9.mono hwp))
  clear hw9 hb9 HW8
  go_wp2_with fail
  refine Jnx (Bits.bytes_any p0 _ y9 HW9.out (by have:=HLN.out ((65535:Nat):Int);omega)) ?_
  rintro e y10 ⟨oz,cz,rfl,hoz,hbz⟩
  have HOZ:=Jnv (hoz.mono HB9.out.size)
  have HBZ:=Jnv (Jno HB9.out hbz)
  clear hoz hbz
  go_wp2_with fail
  go_ret2
  rw[HF2.out]
  exact⟨oz,cz,rfl,HOZ.out,HBZ.out⟩
 ·have hz1:((sm:Int)==0)=false:=by simpa using hz
  have hz2:decide ((sm:Int)=0)=false:=by simpa using hz
  have HF2:Hid (Jaf 17 a b 0 l src dst=Jo 17 a b 0 (8+(n:Int)) (sm:Int) l):=Jnv (by rw[HFIN.out,if_neg (fun h=>hz h.1)])
  go_wp2_with fail
  refine Jnx (Z4 p0 _ 6 sm hsm0 hsm1 y8 HW8.out.wr (by have:=HLS.out;omega) (by have:=HLS.out;omega)) ?_
  rintro e y9 ⟨rfl,hw9,hb9⟩
  rw[HSET.out sm] at hw9
  have HW9:=Jnv hw9
  have HB9:=Jnv (HZ8.out.trans (hb9.mono hwp))
  clear hw9 hb9 HW8
  go_wp2_with fail
  refine Jnx (Bits.bytes_any p0 _ y9 HW9.out (by have:=HLN.out (sm:Int);omega)) ?_
  rintro e y10 ⟨oz,cz,rfl,hoz,hbz⟩
  have HOZ:=Jnv (hoz.mono HB9.out.size)
  have HBZ:=Jnv (Jno HB9.out hbz)
  clear hoz hbz
  go_wp2_with fail
  go_ret2
  rw[HF2.out]
  exact⟨oz,cz,rfl,HOZ.out,HBZ.out⟩
theorem JkQ (a b f:Int)(oD:Option Addr)(n cD:Nat)(l:List Int)(o1 o2:Option Addr)(k c1 c2:Nat)(src dst:List Int)(w:World)(hr:Jj w oD n cD l)(h1:Jj w o1 k c1 src)(h2:Jj w o2 k c2 dst)(hk:k=4∨k=16)(hn:n≤60000)(ha:0≤a∧a<65536)(hb:0≤b∧b<65536)(hf:0≤f∧f<256):
 Calls Tryz.prog 94 #[.agg (QA 6 a b f 0 0 oD n cD),.slice o1 k c1,.slice o2 k c2] w (Jq w (Jaf 6 a b f l src dst) 0):=by
 have hR0:=Jnv hr
 have hnl:=hr.len
 have hnl':=hr.len
 have HLK:Hid (∀r w',w'.heap[r]? =some (.map Qa 4)→(Instr.lookup 224 (.map (some r)) (.int .u8 6) true).run Tryz.prog w'=.ok (.tuple #[.agg #[.int .i64 20,.int .i64 16,.func (.func 184) #[] #[],.func (.func 185) #[] #[],.func (.func 186) #[] #[]],true]) w'):=Jnv (fun r w' h=>Qx 6 (.inl rfl) r w' h)
 have HRT:Hid (∀w',Jj w' oD n cD l→Calls Tryz.prog 152 #[.agg #[.int .u8 6,.int .u16 a,.int .u16 b,.int .u32 0,.int .u32 0,.int .u8 f,.int .u16 0,.int .u16 0,.slice none 0 0,.int .u8 0,.int .u8 0,.slice oD n cD]] w' (Jk w' (.bool true))):=Jnv (fun w' h=>by have:=Jiy a b f oD n cD l w' h hn;unfold QA at this;exact this)
 have HTL:Hid (∀w',Calls Tryz.prog 138 #[.agg #[.int .i64 20,.int .i64 16,.func (.func 184) #[] #[],.func (.func 185) #[] #[],.func (.func 186) #[] #[]],.agg #[.int .u8 6,.int .u16 a,.int .u16 b,.int .u32 0,.int .u32 0,.int .u8 f,.int .u16 0,.int .u16 0,.slice none 0 0,.int .u8 0,.int .u8 0,.slice oD n cD]] w' (Jk w' (.int .i64 (20+(n:Int))))):=Jnv (fun w'=>XJ 20 _ _ _ _ 6 a b f 0 0 oD n cD w' (by decide) (by omega))
 have HPS:Hid (∀w',Below w.heap.size w w'→Calls Tryz.prog 139 #[(6:Int),.int .i64 (20+(n:Int)),.slice o1 k c1,.slice o2 k c2] w' (ZO w' (J1 6 (20+(n:Int)) src dst))):=Jnv (fun w' hb=>by
  have g1:=h1.below hb
  have g2:=h2.below hb
  rcases hk with rfl|rfl
  ·exact Jbp 6 _ o1 o2 c1 c2 src dst w' g1 g2 (by omega) (by omega)
  ·exact Jco 6 _ o1 o2 c1 c2 src dst w' g1 g2 (by omega) (by omega))
 have HPB:Hid (Jm (J1 6 (20+(n:Int)) src dst)):=Jnv (JaG _ _ _ _ h1.byte h2.byte (by omega))
 have HPL:Hid ((J1 6 (20+(n:Int)) src dst).length≤100):=Jnv (by
  have e1:=h1.len
  have e2:=h2.len
  unfold J1
  split
  ·simp
  ·split<;>simp only[List.length_append,be2,List.length_cons,List.length_nil]<;>omega)
 have HPUT:Hid (∀p0 w',WrK w' p0 (fun _=>False) []→Calls Tryz.prog 185 #[.pointer (some ⟨p0,0,none⟩),.agg #[.int .u8 6,.int .u16 a,.int .u16 b,.int .u32 0,.int .u32 0,.int .u8 f,.int .u16 0,.int .u16 0,.slice none 0 0,.int .u8 0,.int .u8 0,.slice oD n cD]] w' (Z7 w' p0 (fun _=>False) (Qg 2 [a,b]++Qg 4 [0,0]++Qg 1 [80,f]++Qg 2 [0,0,0]))):=Jnv (fun p0 w' h=>by
  have:=by have:=Jis p0 _ 6 a b f 0 0 oD n cD [] w' h ha hb hf (by simp);unfold QA at this;exact this
  simpa[List.nil_append] using this)
 have HST:Hid ((Qg 2 [a,b]++Qg 4 [0,0]++Qg 1 [80,f]++Qg 2 [0,0,0])++l=Jo 6 a b f (20+(n:Int)) 0 l):=Jnv (by unfold Jo;simp[Qg,Jek,be2,be4])
 have HLL:Hid ((Qg 2 [a,b]++Qg 4 [0,0]++Qg 1 [80,f]++Qg 2 [0,0,0]).length=20):=Jnv (by simp[Qg,Jek,be2,be4])
 have HLN:Hid (∀c:Int,(Jo 6 a b f (20+(n:Int)) c l).length=20+n):=Jnv (fun c=>by unfold Jo;simp[be2,hnl];omega)
 have HSB:Hid (Jm (Jo 6 a b f (20+(n:Int)) 0 l)):=Jnv (by unfold Jo;simp only[if_true];refine Je (Je (Je (Je (Je (Jt _) (Jt _)) ?_) (Jt _)) ?_) hr.byte;(intro v hv;simp only[List.mem_cons,List.not_mem_nil,or_false] at hv;omega);(intro v hv;simp only[List.mem_cons,List.not_mem_nil,or_false] at hv;omega))
 have HSET:Hid (∀c:Nat,(Jo 6 a b f (20+(n:Int)) 0 l).take 16++be2 (c:Int)++(Jo 6 a b f (20+(n:Int)) 0 l).drop (16+2)=Jo 6 a b f (20+(n:Int)) (c:Int) l):=Jnv (fun c=>by unfold Jo;simp[be2])
 have HFIN:Hid (Jaf 6 a b f l src dst=Jo 6 a b f (20+(n:Int)) (if sumOf (J1 6 (20+(n:Int)) src dst++Jo 6 a b f (20+(n:Int)) 0 l)=0∧6=17 then 65535 else (sumOf (J1 6 (20+(n:Int)) src dst++Jo 6 a b f (20+(n:Int)) 0 l):Int)) l):=Jnv (by
  unfold Jaf Jmz
  rw[show((JcJ 6+l.length:Nat):Int)=20+(n:Int) by rw[hnl];unfold JcJ;simp]
  simp)
 have hx:=heap_alloc_new w (.cells (QA 6 a b f 0 0 oD n cD) 149)
 have hB:Below w.heap.size w (w.alloc (.cells (QA 6 a b f 0 0 oD n cD) 149)):=Below.all (Jny _ _) _
 unfold QA at hx hB⊢
 clear hr h1 h2 hk hnl
 go_enter Tryz.func94,Tryz.ntmps94
 go_wp2_with fail
 obtain⟨b0,hb0e⟩:∃b,b=w.heap.size:=⟨_,rfl⟩
 rw[←hb0e] at hx⊢
 have HE0:=Jnv hb0e
 clear hb0e
 generalize hy:w.alloc (.cells (JnM (6:Int) (.int .u16 a) (.int .u16 b) f (.slice oD n cD)) 149)=y at*
 have hb0:b0<y.heap.size:=(Jnw hx).1
 have hc0:y.cell? ⟨b0,0,none⟩=some (.int .u8 6):=cell_of_row _ _ 0 _ _ (0,0) hx
 have HX:=Jnv hx
 have HB:=Jnv hB
 clear hx hB hy
 refine JG [.w,.h,.h] [(1,1,0),(2,1,0)] (fun _ w'=>w'.cell? ⟨b0,0,none⟩=some (.int .u8 6)) [1] [(.w,0),(.w,3),(.q,4),(.q,5),(.q,6)] [(.w,8),(.q,9)] 7 (.cells #[.int .i64 0,.int .i64 0,.nilFunc,.nilFunc,.nilFunc] 222) (by kernel_rfl) (by kernel_rfl) rfl rfl ⟨fun _=>rfl,fun _ _=>by kernel_rfl⟩ (by kernel_rfl) (by kernel_rfl) ?_
 apply Exists.intro
 refine⟨fun wx hbx=>?_,?_,?_⟩
 ·have hcx:wx.cell? ⟨b0,0,none⟩=some (.int .u8 6):=(Jg hbx hb0 _ rfl).trans hc0
  have hbx2:b0<wx.heap.size:=Jnz hb0 hbx.size
  simp only[Ju]
  repeat go_big_quiet_step (fail)
  exact wpQuiet_nil rfl
 ·intro q hq oi hoi
  simp only[List.mem_cons,List.not_mem_nil,or_false] at hq
  rcases hq with rfl|rfl
  ·cases hoi;exact⟨_,rfl,rfl,fun w2 hw=>by kernel_rfl⟩
  ·cases hoi;exact⟨_,rfl,rfl,fun w2 hw=>by simp[execOp,go_sem,hw]⟩
 simp only[JY,List.getElem?_cons_succ,List.getElem?_cons_zero]
 refine⟨fun v fl w2=>∃r,v=.map (some r)∧XX y r fl w2,?_,?_,?_,?_⟩
 ·rintro fl-
  refine⟨rfl,fun w' hw'=>.inr ⟨136,#[],by kernel_rfl,?_⟩⟩
  obtain⟨⟨x,rfl⟩,hfb⟩:=hw'
  refine(J5 x.world).mono ?_
  rintro e w2 ⟨r,rfl,hr1,hr2,hb2⟩
  refine⟨_,rfl,r,rfl,Jno x.below hb2,Nat.le_trans x.below.size hr1,hr2,fun b hb'=>⟨(hfb b hb').1,?_⟩⟩
  have:=(hfb b hb').2
  exact(hb2.block b (Jnw this).1).trans this
 ·rintro v fl g-w2 ⟨r,-,hst⟩
  exact(Jg hst.1 hb0 _ rfl).trans hc0
 ·rintro-v w2 ⟨r,rfl,h1,h2,h3,-⟩
  exact⟨r,rfl,Below.all h1 _,h2,(heap_alloc_old _ _ (Jnw h3).1).trans h3,fun b hb'=>by cases hb';exact⟨h1.size,heap_alloc_new _ _⟩⟩
 rintro v ⟨fl0,w20,r,rfl,-⟩
 refine⟨fun v fl w2=>v=.tuple #[.agg #[.int .i64 20,.int .i64 16,.func (.func 184) #[] #[],.func (.func 185) #[] #[],.func (.func 186) #[] #[]],true]∧XX y r fl w2,?_,fun _ _=>Jz rfl,?_,?_⟩
 ·rintro fl-
  refine Jv.made rfl ?_
  rintro w' ⟨r',hr',hst⟩
  cases hr'
  exact⟨.tuple #[.agg #[.int .i64 20,.int .i64 16,.func (.func 184) #[] #[],.func (.func 185) #[] #[],.func (.func 186) #[] #[]],true],w',QH _ _ (vm:=.map (some r)) (vx:=.int .u8 6) (by kernel_rfl) (by kernel_rfl) (HLK.out r w' hst.2.2.1),rfl,hst⟩
 ·rintro-v w2 ⟨h0,h1,h2,h3,-⟩
  exact⟨h0,Below.all h1 _,h2,(heap_alloc_old _ _ (Jnw h3).1).trans h3,fun b hb'=>by cases hb';exact⟨h1.size,heap_alloc_new _ _⟩⟩
 rintro v ⟨fl1,w21,rfl,-⟩
 refine⟨.tuple #[.agg #[.int .i64 20,.int .i64 16,.func (.func 184) #[] #[],.func (.func 185) #[] #[],.func (.func 186) #[] #[]],true],⟨rfl,fun _=>by kernel_rfl⟩,?_⟩
 refine⟨.agg #[.int .i64 20,.int .i64 16,.func (.func 184) #[] #[],.func (.func 185) #[] #[],.func (.func 186) #[] #[]],⟨rfl,fun _=>by kernel_rfl⟩,?_⟩
 refine⟨.bool true,⟨rfl,fun _=>by kernel_rfl⟩,?_⟩
 intro bp
 refine⟨fun v fl w2=>v=undef∧Below y.heap.size y w2∧y.heap.size≤bp∧w2.heap[bp]? =some (.cells #[.int .i64 20,.int .i64 16,.func (.func 184) #[] #[],.func (.func 185) #[] #[],.func (.func 186) #[] #[]] 222 (0,0)),?_,fun _ _=>Jz rfl,(fun h=>by cases h),?_⟩
 ·rintro fl rfl
  refine Jv.skip rfl ?_
  rintro w' ⟨-,hst⟩
  obtain⟨hbge,hbx⟩:=hst.2.2.2 bp rfl
  exact⟨_,Xt _ w' bp #[.int .i64 20,.int .i64 16,.func (.func 184) #[] #[],.func (.func 185) #[] #[],.func (.func 186) #[] #[]] (by kernel_rfl) (by kernel_rfl) (by rw[Jd _ _ _ _ _ hbx];rfl) rfl rfl,hst.1.trans (Jf _ hbge),hbge,Jh hbx⟩
 rintro v ⟨fl2,w22,rfl,-⟩
 refine⟨.bool true,⟨rfl,fun _=>by kernel_rfl⟩,?_⟩
 rintro zz ⟨-,hzz,hbge,hpz⟩
 have HZ:=Jnv (Jno HB.out hzz)
 have HXZ:=Jnv ((hzz.block b0 hb0).trans HX.out)
 have HPZ:=Jnv hpz
 have hbpz:bp<zz.heap.size:=(Jnw hpz).1
 have hb0z:b0<zz.heap.size:=Jnz hb0 hzz.size
 have hne:bp≠b0:=by omega
 have hpt:Jc zz b0 0 12=(JnM (6:Int) (.int .u16 a) (.int .u16 b) f (.slice oD n cD):Array Value):=Jb HXZ.out rfl
 clear hzz hpz hbge hc0 hb0 w20 w21 w22 fl0 fl1 fl2 HX HB HLK
 unfold QQ
 go_wp2_with fail
 refine Jnx (HRT.out zz (hR0.out.below HZ.out)) ?_
 rintro e y2 ⟨rfl,hb2⟩
 have HZ2:=Jnv (Jno HZ.out hb2)
 have HXZ2:=Jnv ((hb2.block b0 hb0z).trans HXZ.out)
 have HPZ2:=Jnv ((hb2.block bp hbpz).trans HPZ.out)
 clear hb2 hpt hbpz hb0z HZ HXZ HPZ HRT
 go_wp2_with fail
 have hb02:b0<y2.heap.size:=(Jnw HXZ2.out).1
 have hbp2:bp<y2.heap.size:=(Jnw HPZ2.out).1
 refine J0 [.h,.h,.h,.h,.h,.h,.h] [] (fun _ _=>True) [] [(.w,7),(.q,8),(.q,9),(.q,10),(.q,11),(.q,12)] (by kernel_rfl) (by kernel_rfl) (by kernel_rfl) (by kernel_rfl) ?_
 apply Exists.intro
 refine⟨fun wx hbx=>?_,by simp,?_⟩
 ·have hbx2:b0<wx.heap.size:=Jnz hb02 hbx.size
  have hbx3:bp<wx.heap.size:=Jnz hbp2 hbx.size
  have hxx:=(hbx.block b0 hb02).trans HXZ2.out
  have hcx:wx.cell? ⟨b0,0,none⟩=some (.int .u8 6):=cell_of_row _ _ 0 _ _ (0,0) hxx
  have hpt0:Jc wx b0 0 12=(JnM (6:Int) (.int .u16 a) (.int .u16 b) f (.slice oD n cD):Array Value):=Jb hxx rfl
  have hptp:Jc wx bp 0 5=#[.int .i64 20,.int .i64 16,.func (.func 184) #[] #[],.func (.func 185) #[] #[],.func (.func 186) #[] #[]]:=Jb ((hbx.block bp hbp2).trans HPZ2.out) rfl
  have hld:∀x:JC wx,Q5 Tryz.prog 149 x.world (.pointer (some ⟨b0,0,none⟩))=.ok (.value (.agg (JnM (6:Int) (.int .u16 a) (.int .u16 b) f (.slice oD n cD)))) x.world:=fun x=>by
   have e:Jc x.world b0 0 12=_:=(JC.part x b0 0 12 hbx2).trans hpt0
   rw[QV x.world b0 0 (by rw[e];rfl),e]
  have hldp:∀x:JC wx,Q5 Tryz.prog 222 x.world (.pointer (some ⟨bp,0,none⟩))=.ok (.value (.agg #[.int .i64 20,.int .i64 16,.func (.func 184) #[] #[],.func (.func 185) #[] #[],.func (.func 186) #[] #[]])) x.world:=fun x=>by
   have e:Jc x.world bp 0 5=_:=(JC.part x bp 0 5 hbx3).trans hptp
   rw[Zy x.world bp 0 (by rw[e];rfl),e]
  clear hxx hbx
  simp only[Ju]
  repeat go_big_quiet_step ((go_at_call 138;exact JJ (HTL.out _)))
  exact wpQuiet_nil rfl
 simp only[JY,List.getElem?_cons_succ,List.getElem?_cons_zero]
 generalize hPL:J1 6 (20+(n:Int)) src dst=PL at*
 clear hPL
 refine⟨fun v fl w2=>∃oP cP,v=.tuple #[.slice oP PL.length cP,true]∧JI w2 y2.heap.size 1 oP PL.length cP (PL.map (.int .u8))∧Below y2.heap.size y2 w2,?_,fun _ _=>Xf,(fun h=>by cases h),?_⟩
 ·rintro fl rfl
  refine⟨rfl,fun w' hw'=>.inr ⟨139,#[(6:Int),.int .i64 (20+(n:Int)),.slice o1 k c1,.slice o2 k c2],by kernel_rfl,?_⟩⟩
  obtain⟨⟨x,rfl⟩,-⟩:=hw'
  refine(HPS.out x.world (Jno HZ2.out x.below)).mono ?_
  rintro e w2 ⟨oP,cP,rfl,ho,hb⟩
  exact⟨_,rfl,oP,cP,rfl,ho.mono x.below.size,Jno x.below hb⟩
 rintro v ⟨fl3,w23,oP,cP,rfl,-⟩
 refine⟨.tuple #[.slice oP PL.length cP,true],⟨rfl,fun _=>by kernel_rfl⟩,?_⟩
 refine⟨.slice oP PL.length cP,⟨rfl,fun _=>by kernel_rfl⟩,?_⟩
 refine⟨.bool true,⟨rfl,fun _=>by kernel_rfl⟩,?_⟩
 refine⟨.slice oP PL.length cP,⟨rfl,fun _=>by kernel_rfl⟩,?_⟩
 refine⟨.bool true,⟨rfl,fun _=>by kernel_rfl⟩,?_⟩
 rintro y3 ⟨oP',cP',he,hoP,hb3⟩
 obtain⟨rfl,rfl⟩:oP=oP'∧cP=cP':=by simpa using he
 clear he w23 fl3
 have HZ3:=Jnv (Jno HZ2.out hb3)
 have hx3:=(hb3.block b0 hb02).trans HXZ2.out
 have hp3:=(hb3.block bp hbp2).trans HPZ2.out
 have hb03:b0<y3.heap.size:=(Jnw hx3).1
 have hbp3:bp<y3.heap.size:=(Jnw hp3).1
 have HOP:=Jnv hoP
 have HXZ3:=Jnv hx3
 have HPZ3:=Jnv hp3
 obtain⟨p0,hp0⟩:∃p0,p0=y3.heap.size:=⟨_,rfl⟩
 have hW:WrK (y3.alloc (.cells #[JnE] 137)) y3.heap.size (fun _=>False) []:=by
  refine WrK.new ?_ ?_ ?_ ?_
  ·simp
  ·simp
  ·simp
  ·intro b hb;cases hb
 have HW:=Jnv hW
 have hBA:Below y3.heap.size y3 (y3.alloc (.cells #[JnE] 137)):=Below.all (Jny _ _) _
 have hc3:(y3.alloc (.cells #[JnE] 137)).cell? ⟨bp,3,none⟩=some (.func (.func 185) #[] #[]):=(World.cell?_of_block (a:=⟨bp,3,none⟩) (hBA.block bp hbp3)).trans (cell_of_row _ _ 3 _ _ (0,0) hp3)
 have hc3':y3.cell? ⟨bp,3,none⟩=some (.func (.func 185) #[] #[]):=cell_of_row _ _ 3 _ _ (0,0) hp3
 have hpt:Jc (y3.alloc (.cells #[JnE] 137)) b0 0 12=(JnM (6:Int) (.int .u16 a) (.int .u16 b) f (.slice oD n cD):Array Value):=Jb ((hBA.block b0 hb03).trans hx3) rfl
 have hpt':Jc y3 b0 0 12=(JnM (6:Int) (.int .u16 a) (.int .u16 b) f (.slice oD n cD):Array Value):=Jb hx3 rfl
 have HBA:=Jnv hBA
 clear hW hBA hb3 hoP hx3 hp3 HXZ2 HPZ2 HZ2 hb02 hbp2 HPS
 go_wp2_with fail
 rw[←hp0] at HW HBA⊢
 generalize y3.alloc (.cells #[JnE] 137)=y4 at*
 refine Jnx (HPUT.out p0 y4 HW.out) ?_
 rintro e y5 ⟨rfl,hw5,hb5,-⟩
 have hb35:=HBA.out.trans hb5
 rw[←hp0] at hb03 hbp3
 have hwp:w.heap.size≤p0:=by rw[hp0];exact HZ3.out.size
 have HZ5:=Jnv (HZ3.out.trans (hb35.mono hwp))
 have HXZ5:=Jnv ((hb35.block b0 hb03).trans HXZ3.out)
 have HPZ5:=Jnv ((hb35.block bp hbp3).trans HPZ3.out)
 have HRP:=Jnv ((HOP.out.reads HPB.out).belowB hb35 (fun a e=>by rw[hp0];exact(HOP.out.lt e).2))
 have HAP:Hid (∀a,oP=some a→a.block<p0):=Jnv (fun a e=>by rw[hp0];exact(HOP.out.lt e).2)
 have HW5:=Jnv hw5
 have hc11:y5.cell? ⟨b0,11,none⟩=some (.slice oD n cD):=cell_of_row _ _ 11 _ _ (0,0) HXZ5.out
 clear hw5 hb5 hb35 hc3 hc3' hpt hpt' HW HBA HXZ3 HPZ3 HOP HZ3 HPUT hp0
 go_wp2_with fail
 refine Jnx (X6 p0 _ _ oD n cD l y5 HW5.out (hR0.out.below HZ5.out) (by rw[HLL.out,hnl'];omega)) ?_
 rintro e y6 ⟨rfl,hw6,hb6,-⟩
 rw[HST.out] at hw6
 have HW6:=Jnv hw6
 have HZ6:=Jnv (HZ5.out.trans (hb6.mono hwp))
 have HXZ6:=Jnv ((hb6.block b0 hb03).trans HXZ5.out)
 have HPZ6:=Jnv ((hb6.block bp hbp3).trans HPZ5.out)
 have HRP6:=Jnv (HRP.out.belowB hb6 HAP.out)
 clear hw6 hb6 HW5 HZ5 HXZ5 HPZ5 HRP hc11
 go_wp2_with fail
 refine Jnx (Bits.bytes_any p0 _ y6 HW6.out.wr (by have:=HLN.out 0;omega)) ?_
 rintro e y7 ⟨ob,cb,rfl,ho7,hb7⟩
 have hbx:=hb7.mono (Nat.le_of_lt HW6.out.lt)
 have HR7:=Jnv (ho7.reads HSB.out)
 have HA7:Hid (∀a,ob=some a→a.block<y7.heap.size):=Jnv (fun a e=>(ho7.lt e).2)
 have HW7:=Jnv (HW6.out.below hb7)
 have HZ7:=Jnv (HZ6.out.trans (hbx.mono hwp))
 have HXZ7:=Jnv ((hbx.block b0 hb03).trans HXZ6.out)
 have HPZ7:=Jnv ((hbx.block bp hbp3).trans HPZ6.out)
 have HRP7:=Jnv (HRP6.out.below hb7)
 have hp07:p0<y7.heap.size:=Jnz HW6.out.lt hb7.size
 have HLS:=Jnv (HLN.out 0)
 have HRU:=Jnv (JbP 22 HRP7.out HR7.out (by have:=HPL.out;omega) (by have:=HLS.out;omega) (fun a e=>Nat.lt_trans (HAP.out a e) hp07) HA7.out)
 clear ho7 hb7 hbx HW6 HZ6 HXZ6 HPZ6 HRP6
 go_wp2_with fail
 refine Jnx (Jaw _ 2 2 _ _ HRU.out (by decide)) ?_
 rintro e y8 ⟨rfl,hb8⟩
 have hb78:=Jno (Below.all (Jny y7.heap.size y7) (.cells #[.slice oP PL.length cP,.slice ob (Jo 6 a b f (20+(n:Int)) 0 l).length cb] 22)) hb8
 have HW8:=Jnv (HW7.out.below hb78)
 have HZ8:=Jnv (Jno HZ7.out hb78)
 have HXZ8:=Jnv ((hb78.block b0 (Nat.lt_trans hb03 hp07)).trans HXZ7.out)
 have HPZ8:=Jnv ((hb78.block bp (Nat.lt_trans hbp3 hp07)).trans HPZ7.out)
 rw[show[PL,Jo 6 a b f (20+(n:Int)) 0 l].flatten=PL++Jo 6 a b f (20+(n:Int)) 0 l by simp]
 have hsm:=JaO (PL++Jo 6 a b f (20+(n:Int)) 0 l)
 generalize sumOf (PL++Jo 6 a b f (20+(n:Int)) 0 l)=sm at*
 have hc0:y8.cell? ⟨b0,0,none⟩=some (.int .u8 6):=cell_of_row _ _ 0 _ _ (0,0) HXZ8.out
 have hc1:y8.cell? ⟨bp,1,none⟩=some (.int .i64 16):=cell_of_row _ _ 1 _ _ (0,0) HPZ8.out
 clear hb8 hb78 HRU HW7 HZ7 HXZ7 HPZ7 HRP7 HR7 HA7
 have hsm0:(0:Int)≤(sm:Int):=Int.natCast_nonneg _
 have hsm1:(sm:Int)<65536:=by omega
 by_cases hz:sm=0
 ·subst hz
  have HF2:Hid (Jaf 6 a b f l src dst=Jo 6 a b f (20+(n:Int)) ((0:Nat):Int) l):=Jnv (by rw[HFIN.out];simp)
  go_wp2_with fail
  refine Jnx (Z4 p0 _ 16 0 (by decide) (by decide) y8 HW8.out.wr (by have:=HLS.out;omega) (by have:=HLS.out;omega)) ?_
  rintro e y9 ⟨rfl,hw9,hb9⟩
  have hw9':Wr y9 p0 (Jo 6 a b f (20+(n:Int)) ((0:Nat):Int) l):=by
   have e:=HSET.out 0
   rw[show((0:Nat):Int)=0 from rfl] at e⊢
   rw[e] at hw9
   exact hw9
  have HW9:=Jnv hw9'
  clear hw9'
  have HB9:=Jnv (HZ8.out.trans (hb9.mono hwp))
  clear hw9 hb9 HW8
  go_wp2_with fail
  refine Jnx (Bits.bytes_any p0 _ y9 HW9.out (by have:=HLN.out ((0:Nat):Int);omega)) ?_
  rintro e y10 ⟨oz,cz,rfl,hoz,hbz⟩
  have HOZ:=Jnv (hoz.mono HB9.out.size)
  have HBZ:=Jnv (Jno HB9.out hbz)
  clear hoz hbz
  go_wp2_with fail
  go_ret2
  rw[HF2.out]
  exact⟨oz,cz,rfl,HOZ.out,HBZ.out⟩
 ·have hz1:((sm:Int)==0)=false:=by simpa using hz
  have hz2:decide ((sm:Int)=0)=false:=by simpa using hz
  have HF2:Hid (Jaf 6 a b f l src dst=Jo 6 a b f (20+(n:Int)) (sm:Int) l):=Jnv (by rw[HFIN.out,if_neg (fun h=>hz h.1)])
  go_wp2_with fail
  refine Jnx (Z4 p0 _ 16 sm hsm0 hsm1 y8 HW8.out.wr (by have:=HLS.out;omega) (by have:=HLS.out;omega)) ?_
  rintro e y9 ⟨rfl,hw9,hb9⟩
  rw[HSET.out sm] at hw9
  have HW9:=Jnv hw9
  have HB9:=Jnv (HZ8.out.trans (hb9.mono hwp))
  clear hw9 hb9 HW8
  go_wp2_with fail
  refine Jnx (Bits.bytes_any p0 _ y9 HW9.out (by have:=HLN.out (sm:Int);omega)) ?_
  rintro e y10 ⟨oz,cz,rfl,hoz,hbz⟩
  have HOZ:=Jnv (hoz.mono HB9.out.size)
  have HBZ:=Jnv (Jno HB9.out hbz)
  clear hoz hbz
  go_wp2_with fail
  go_ret2
  rw[HF2.out]
  exact⟨oz,cz,rfl,HOZ.out,HBZ.out⟩
theorem JjO (p ty cd:Int)(oD:Option Addr)(n cD:Nat)(l:List Int)(o1 o2:Option Addr)(k c1 c2:Nat)(src dst:List Int)(w:World)(hr:Jj w oD n cD l)(h1:Jj w o1 k c1 src)(h2:Jj w o2 k c2 dst)(hk:k=4∨k=16)(hn:n≤60000)(ha:0≤ty∧ty<256)(hb:0≤cd∧cd<256)(hp:p=1∨p=58):
 Calls Tryz.prog 94 #[.agg (QA p 0 0 0 ty cd oD n cD),.slice o1 k c1,.slice o2 k c2] w (Jq w (Jaf p ty cd 0 l src dst) 0):=by
 have hR0:=Jnv hr
 have hnl:=hr.len
 have hnl':=hr.len
 have hp6:¬p=6:=by omega
 have hp17:¬p=17:=by omega
 have hp17b:(p==17)=false:=by simpa using hp17
 have hp17c:decide (p=17)=false:=by simpa using hp17
 have hpr:0≤p∧p<256:=by omega
 have HLK:Hid (∀r w',w'.heap[r]? =some (.map Qa 4)→(Instr.lookup 224 (.map (some r)) (.int .u8 p) true).run Tryz.prog w'=.ok (.tuple #[.agg #[.int .i64 4,.int .i64 2,.func (.func 181) #[] #[],.func (.func 182) #[] #[],.func (.func 183) #[] #[]],true]) w'):=Jnv (fun r w' h=>by have:=Qx p (.inr (.inr hp)) r w' h;rwa [show Jdv p=XV by rcases hp with rfl|rfl<;>rfl] at this)
 have HRT:Hid (∀w',Jj w' oD n cD l→Calls Tryz.prog 152 #[.agg #[.int .u8 p,.int .u16 0,.int .u16 0,.int .u32 0,.int .u32 0,.int .u8 0,.int .u16 0,.int .u16 0,.slice none 0 0,.int .u8 ty,.int .u8 cd,.slice oD n cD]] w' (Jk w' (.bool true))):=Jnv (fun w' h=>by have:=Jhp p ty cd oD n cD l w' h hn hp;unfold QA at this;exact this)
 have HTL:Hid (∀w',Calls Tryz.prog 138 #[.agg #[.int .i64 4,.int .i64 2,.func (.func 181) #[] #[],.func (.func 182) #[] #[],.func (.func 183) #[] #[]],.agg #[.int .u8 p,.int .u16 0,.int .u16 0,.int .u32 0,.int .u32 0,.int .u8 0,.int .u16 0,.int .u16 0,.slice none 0 0,.int .u8 ty,.int .u8 cd,.slice oD n cD]] w' (Jk w' (.int .i64 (4+(n:Int))))):=Jnv (fun w'=>XJ 4 _ _ _ _ p 0 0 0 ty cd oD n cD w' (by decide) (by omega))
 have HPS:Hid (∀w',Below w.heap.size w w'→Calls Tryz.prog 139 #[p,.int .i64 (4+(n:Int)),.slice o1 k c1,.slice o2 k c2] w' (ZO w' (J1 p (4+(n:Int)) src dst))):=Jnv (fun w' hb=>by
  have g1:=h1.below hb
  have g2:=h2.below hb
  rcases hk with rfl|rfl
  ·exact Jbp p _ o1 o2 c1 c2 src dst w' g1 g2 (by omega) (by omega)
  ·exact Jco p _ o1 o2 c1 c2 src dst w' g1 g2 (by omega) (by omega))
 have HPB:Hid (Jm (J1 p (4+(n:Int)) src dst)):=Jnv (JaG _ _ _ _ h1.byte h2.byte (by omega))
 have HPL:Hid ((J1 p (4+(n:Int)) src dst).length≤100):=Jnv (by
  have e1:=h1.len
  have e2:=h2.len
  unfold J1
  split
  ·simp
  ·split<;>simp only[List.length_append,be2,List.length_cons,List.length_nil]<;>omega)
 have HPUT:Hid (∀p0 w',WrK w' p0 (fun _=>False) []→Calls Tryz.prog 182 #[.pointer (some ⟨p0,0,none⟩),.agg #[.int .u8 p,.int .u16 0,.int .u16 0,.int .u32 0,.int .u32 0,.int .u8 0,.int .u16 0,.int .u16 0,.slice none 0 0,.int .u8 ty,.int .u8 cd,.slice oD n cD]] w' (Z7 w' p0 (fun _=>False) (Qg 1 [ty,cd]++Qg 2 [0]))):=Jnv (fun p0 w' h=>by
  have:=by have:=Jhn p0 _ p 0 0 0 ty cd oD n cD [] w' h ha hb (by simp);unfold QA at this;exact this
  simpa[List.nil_append] using this)
 have HST:Hid ((Qg 1 [ty,cd]++Qg 2 [0])++l=Jo p ty cd 0 (4+(n:Int)) 0 l):=Jnv (by unfold Jo;simp[Qg,Jek,be2,be4,hp6,hp17])
 have HLL:Hid ((Qg 1 [ty,cd]++Qg 2 [0]).length=4):=Jnv (by simp[Qg,Jek,be2,be4])
 have HLN:Hid (∀c:Int,(Jo p ty cd 0 (4+(n:Int)) c l).length=4+n):=Jnv (fun c=>by unfold Jo;simp[be2,hnl,hp6,hp17];omega)
 have HSB:Hid (Jm (Jo p ty cd 0 (4+(n:Int)) 0 l)):=Jnv (by unfold Jo;simp only[if_neg hp6,if_neg hp17];refine Je (Je ?_ (Jt _)) hr.byte;(intro v hv;simp only[List.mem_cons,List.not_mem_nil,or_false] at hv;omega))
 have HSET:Hid (∀c:Nat,(Jo p ty cd 0 (4+(n:Int)) 0 l).take 2++be2 (c:Int)++(Jo p ty cd 0 (4+(n:Int)) 0 l).drop (2+2)=Jo p ty cd 0 (4+(n:Int)) (c:Int) l):=Jnv (fun c=>by unfold Jo;simp[be2,hp6,hp17])
 have HFIN:Hid (Jaf p ty cd 0 l src dst=Jo p ty cd 0 (4+(n:Int)) (if sumOf (J1 p (4+(n:Int)) src dst++Jo p ty cd 0 (4+(n:Int)) 0 l)=0∧p=17 then 65535 else (sumOf (J1 p (4+(n:Int)) src dst++Jo p ty cd 0 (4+(n:Int)) 0 l):Int)) l):=Jnv (by
  unfold Jaf Jmz
  rw[show((JcJ p+l.length:Nat):Int)=4+(n:Int) by rw[hnl];unfold JcJ;simp[hp6,hp17,hp]]
  simp)
 have hx:=heap_alloc_new w (.cells (QA p 0 0 0 ty cd oD n cD) 149)
 have hB:Below w.heap.size w (w.alloc (.cells (QA p 0 0 0 ty cd oD n cD) 149)):=Below.all (Jny _ _) _
 unfold QA at hx hB⊢
 clear hr h1 h2 hk hp hnl
 go_enter Tryz.func94,Tryz.ntmps94
 go_wp2_with fail
 obtain⟨b0,hb0e⟩:∃b,b=w.heap.size:=⟨_,rfl⟩
 rw[←hb0e] at hx⊢
 have HE0:=Jnv hb0e
 clear hb0e
 generalize hy:w.alloc (.cells (JnO p ty cd (.slice oD n cD)) 149)=y at*
 have hb0:b0<y.heap.size:=(Jnw hx).1
 have hc0:y.cell? ⟨b0,0,none⟩=some (.int .u8 p):=cell_of_row _ _ 0 _ _ (0,0) hx
 have HX:=Jnv hx
 have HB:=Jnv hB
 clear hx hB hy
 refine JG [.w,.h,.h] [(1,1,0),(2,1,0)] (fun _ w'=>w'.cell? ⟨b0,0,none⟩=some (.int .u8 p)) [1] [(.w,0),(.w,3),(.q,4),(.q,5),(.q,6)] [(.w,8),(.q,9)] 7 (.cells #[.int .i64 0,.int .i64 0,.nilFunc,.nilFunc,.nilFunc] 222) (by kernel_rfl) (by kernel_rfl) rfl rfl ⟨fun _=>rfl,fun _ _=>by kernel_rfl⟩ (by kernel_rfl) (by kernel_rfl) ?_
 apply Exists.intro
 refine⟨fun wx hbx=>?_,?_,?_⟩
 ·have hcx:wx.cell? ⟨b0,0,none⟩=some (.int .u8 p):=(Jg hbx hb0 _ rfl).trans hc0
  have hbx2:b0<wx.heap.size:=Jnz hb0 hbx.size
  simp only[Ju]
  repeat go_big_quiet_step (fail)
  exact wpQuiet_nil rfl
 ·intro q hq oi hoi
  simp only[List.mem_cons,List.not_mem_nil,or_false] at hq
  rcases hq with rfl|rfl
  ·cases hoi;exact⟨_,rfl,rfl,fun w2 hw=>by kernel_rfl⟩
  ·cases hoi;exact⟨_,rfl,rfl,fun w2 hw=>by simp[execOp,go_sem,hw]⟩
 simp only[JY,List.getElem?_cons_succ,List.getElem?_cons_zero]
 refine⟨fun v fl w2=>∃r,v=.map (some r)∧XX y r fl w2,?_,?_,?_,?_⟩
 ·rintro fl-
  refine⟨rfl,fun w' hw'=>.inr ⟨136,#[],by kernel_rfl,?_⟩⟩
  obtain⟨⟨x,rfl⟩,hfb⟩:=hw'
  refine(J5 x.world).mono ?_
  rintro e w2 ⟨r,rfl,hr1,hr2,hb2⟩
  refine⟨_,rfl,r,rfl,Jno x.below hb2,Nat.le_trans x.below.size hr1,hr2,fun b hb'=>⟨(hfb b hb').1,?_⟩⟩
  have:=(hfb b hb').2
  exact(hb2.block b (Jnw this).1).trans this
 ·rintro v fl g-w2 ⟨r,-,hst⟩
  exact(Jg hst.1 hb0 _ rfl).trans hc0
 ·rintro-v w2 ⟨r,rfl,h1,h2,h3,-⟩
  exact⟨r,rfl,Below.all h1 _,h2,(heap_alloc_old _ _ (Jnw h3).1).trans h3,fun b hb'=>by cases hb';exact⟨h1.size,heap_alloc_new _ _⟩⟩
 rintro v ⟨fl0,w20,r,rfl,-⟩
 refine⟨fun v fl w2=>v=.tuple #[.agg #[.int .i64 4,.int .i64 2,.func (.func 181) #[] #[],.func (.func 182) #[] #[],.func (.func 183) #[] #[]],true]∧XX y r fl w2,?_,fun _ _=>Jz rfl,?_,?_⟩
 ·rintro fl-
  refine Jv.made rfl ?_
  rintro w' ⟨r',hr',hst⟩
  cases hr'
  exact⟨.tuple #[.agg #[.int .i64 4,.int .i64 2,.func (.func 181) #[] #[],.func (.func 182) #[] #[],.func (.func 183) #[] #[]],true],w',QH _ _ (vm:=.map (some r)) (vx:=.int .u8 p) (by kernel_rfl) (by kernel_rfl) (HLK.out r w' hst.2.2.1),rfl,hst⟩
 ·rintro-v w2 ⟨h0,h1,h2,h3,-⟩
  exact⟨h0,Below.all h1 _,h2,(heap_alloc_old _ _ (Jnw h3).1).trans h3,fun b hb'=>by cases hb';exact⟨h1.size,heap_alloc_new _ _⟩⟩
 rintro v ⟨fl1,w21,rfl,-⟩
 refine⟨.tuple #[.agg #[.int .i64 4,.int .i64 2,.func (.func 181) #[] #[],.func (.func 182) #[] #[],.func (.func 183) #[] #[]],true],⟨rfl,fun _=>by kernel_rfl⟩,?_⟩
 refine⟨.agg #[.int .i64 4,.int .i64 2,.func (.func 181) #[] #[],.func (.func 182) #[] #[],.func (.func 183) #[] #[]],⟨rfl,fun _=>by kernel_rfl⟩,?_⟩
 refine⟨.bool true,⟨rfl,fun _=>by kernel_rfl⟩,?_⟩
 intro bp
 refine⟨fun v fl w2=>v=undef∧Below y.heap.size y w2∧y.heap.size≤bp∧w2.heap[bp]? =some (.cells #[.int .i64 4,.int .i64 2,.func (.func 181) #[] #[],.func (.func 182) #[] #[],.func (.func 183) #[] #[]] 222 (0,0)),?_,fun _ _=>Jz rfl,(fun h=>by cases h),?_⟩
 ·rintro fl rfl
  refine Jv.skip rfl ?_
  rintro w' ⟨-,hst⟩
  obtain⟨hbge,hbx⟩:=hst.2.2.2 bp rfl
  exact⟨_,Xt _ w' bp #[.int .i64 4,.int .i64 2,.func (.func 181) #[] #[],.func (.func 182) #[] #[],.func (.func 183) #[] #[]] (by kernel_rfl) (by kernel_rfl) (by rw[Jd _ _ _ _ _ hbx];rfl) rfl rfl,hst.1.trans (Jf _ hbge),hbge,Jh hbx⟩
 rintro v ⟨fl2,w22,rfl,-⟩
 refine⟨.bool true,⟨rfl,fun _=>by kernel_rfl⟩,?_⟩
 rintro zz ⟨-,hzz,hbge,hpz⟩
 have HZ:=Jnv (Jno HB.out hzz)
 have HXZ:=Jnv ((hzz.block b0 hb0).trans HX.out)
 have HPZ:=Jnv hpz
 have hbpz:bp<zz.heap.size:=(Jnw hpz).1
 have hb0z:b0<zz.heap.size:=Jnz hb0 hzz.size
 have hne:bp≠b0:=by omega
 have hpt:Jc zz b0 0 12=(JnO p ty cd (.slice oD n cD):Array Value):=Jb HXZ.out rfl
 clear hzz hpz hbge hc0 hb0 w20 w21 w22 fl0 fl1 fl2 HX HB HLK
 unfold QQ
 go_wp2_with fail
 refine Jnx (HRT.out zz (hR0.out.below HZ.out)) ?_
 rintro e y2 ⟨rfl,hb2⟩
 have HZ2:=Jnv (Jno HZ.out hb2)
 have HXZ2:=Jnv ((hb2.block b0 hb0z).trans HXZ.out)
 have HPZ2:=Jnv ((hb2.block bp hbpz).trans HPZ.out)
 clear hb2 hpt hbpz hb0z HZ HXZ HPZ HRT
 go_wp2_with fail
 have hb02:b0<y2.heap.size:=(Jnw HXZ2.out).1
 have hbp2:bp<y2.heap.size:=(Jnw HPZ2.out).1
 refine J0 [.h,.h,.h,.h,.h,.h,.h] [] (fun _ _=>True) [] [(.w,7),(.q,8),(.q,9),(.q,10),(.q,11),(.q,12)] (by kernel_rfl) (by kernel_rfl) (by kernel_rfl) (by kernel_rfl) ?_
 apply Exists.intro
 refine⟨fun wx hbx=>?_,by simp,?_⟩
 ·have hbx2:b0<wx.heap.size:=Jnz hb02 hbx.size
  have hbx3:bp<wx.heap.size:=Jnz hbp2 hbx.size
  have hxx:=(hbx.block b0 hb02).trans HXZ2.out
  have hcx:wx.cell? ⟨b0,0,none⟩=some (.int .u8 p):=cell_of_row _ _ 0 _ _ (0,0) hxx
  have hpt0:Jc wx b0 0 12=(JnO p ty cd (.slice oD n cD):Array Value):=Jb hxx rfl
  have hptp:Jc wx bp 0 5=#[.int .i64 4,.int .i64 2,.func (.func 181) #[] #[],.func (.func 182) #[] #[],.func (.func 183) #[] #[]]:=Jb ((hbx.block bp hbp2).trans HPZ2.out) rfl
  have hld:∀x:JC wx,Q5 Tryz.prog 149 x.world (.pointer (some ⟨b0,0,none⟩))=.ok (.value (.agg (JnO p ty cd (.slice oD n cD)))) x.world:=fun x=>by
   have e:Jc x.world b0 0 12=_:=(JC.part x b0 0 12 hbx2).trans hpt0
   rw[QV x.world b0 0 (by rw[e];rfl),e]
  have hldp:∀x:JC wx,Q5 Tryz.prog 222 x.world (.pointer (some ⟨bp,0,none⟩))=.ok (.value (.agg #[.int .i64 4,.int .i64 2,.func (.func 181) #[] #[],.func (.func 182) #[] #[],.func (.func 183) #[] #[]])) x.world:=fun x=>by
   have e:Jc x.world bp 0 5=_:=(JC.part x bp 0 5 hbx3).trans hptp
   rw[Zy x.world bp 0 (by rw[e];rfl),e]
  clear hxx hbx
  simp only[Ju]
  repeat go_big_quiet_step ((go_at_call 138;exact JJ (HTL.out _)))
  exact wpQuiet_nil rfl
 simp only[JY,List.getElem?_cons_succ,List.getElem?_cons_zero]
 generalize hPL:J1 p (4+(n:Int)) src dst=PL at*
 clear hPL
 refine⟨fun v fl w2=>∃oP cP,v=.tuple #[.slice oP PL.length cP,true]∧JI w2 y2.heap.size 1 oP PL.length cP (PL.map (.int .u8))∧Below y2.heap.size y2 w2,?_,fun _ _=>Xf,(fun h=>by cases h),?_⟩
 ·rintro fl rfl
  refine⟨rfl,fun w' hw'=>.inr ⟨139,#[p,.int .i64 (4+(n:Int)),.slice o1 k c1,.slice o2 k c2],by kernel_rfl,?_⟩⟩
  obtain⟨⟨x,rfl⟩,-⟩:=hw'
  refine(HPS.out x.world (Jno HZ2.out x.below)).mono ?_
  rintro e w2 ⟨oP,cP,rfl,ho,hb⟩
  exact⟨_,rfl,oP,cP,rfl,ho.mono x.below.size,Jno x.below hb⟩
 rintro v ⟨fl3,w23,oP,cP,rfl,-⟩
 refine⟨.tuple #[.slice oP PL.length cP,true],⟨rfl,fun _=>by kernel_rfl⟩,?_⟩
 refine⟨.slice oP PL.length cP,⟨rfl,fun _=>by kernel_rfl⟩,?_⟩
 refine⟨.bool true,⟨rfl,fun _=>by kernel_rfl⟩,?_⟩
 refine⟨.slice oP PL.length cP,⟨rfl,fun _=>by kernel_rfl⟩,?_⟩
 refine⟨.bool true,⟨rfl,fun _=>by kernel_rfl⟩,?_⟩
 rintro y3 ⟨oP',cP',he,hoP,hb3⟩
 obtain⟨rfl,rfl⟩:oP=oP'∧cP=cP':=by simpa using he
 clear he w23 fl3
 have HZ3:=Jnv (Jno HZ2.out hb3)
 have hx3:=(hb3.block b0 hb02).trans HXZ2.out
 have hp3:=(hb3.block bp hbp2).trans HPZ2.out
 have hb03:b0<y3.heap.size:=(Jnw hx3).1
 have hbp3:bp<y3.heap.size:=(Jnw hp3).1
 have HOP:=Jnv hoP
 have HXZ3:=Jnv hx3
 have HPZ3:=Jnv hp3
 obtain⟨p0,hp0⟩:∃p0,p0=y3.heap.size:=⟨_,rfl⟩
 have hW:WrK (y3.alloc (.cells #[JnE] 137)) y3.heap.size (fun _=>False) []:=by
  refine WrK.new ?_ ?_ ?_ ?_
  ·simp
  ·simp
  ·simp
  ·intro b hb;cases hb
 have HW:=Jnv hW
 have hBA:Below y3.heap.size y3 (y3.alloc (.cells #[JnE] 137)):=Below.all (Jny _ _) _
 have hc3:(y3.alloc (.cells #[JnE] 137)).cell? ⟨bp,3,none⟩=some (.func (.func 182) #[] #[]):=(World.cell?_of_block (a:=⟨bp,3,none⟩) (hBA.block bp hbp3)).trans (cell_of_row _ _ 3 _ _ (0,0) hp3)
 have hc3':y3.cell? ⟨bp,3,none⟩=some (.func (.func 182) #[] #[]):=cell_of_row _ _ 3 _ _ (0,0) hp3
 have hpt:Jc (y3.alloc (.cells #[JnE] 137)) b0 0 12=(JnO p ty cd (.slice oD n cD):Array Value):=Jb ((hBA.block b0 hb03).trans hx3) rfl
 have hpt':Jc y3 b0 0 12=(JnO p ty cd (.slice oD n cD):Array Value):=Jb hx3 rfl
 have HBA:=Jnv hBA
 clear hW hBA hb3 hoP hx3 hp3 HXZ2 HPZ2 HZ2 hb02 hbp2 HPS
 go_wp2_with fail
 rw[←hp0] at HW HBA⊢
 generalize y3.alloc (.cells #[JnE] 137)=y4 at*
 refine Jnx (HPUT.out p0 y4 HW.out) ?_
 rintro e y5 ⟨rfl,hw5,hb5,-⟩
 have hb35:=HBA.out.trans hb5
 rw[←hp0] at hb03 hbp3
 have hwp:w.heap.size≤p0:=by rw[hp0];exact HZ3.out.size
 have HZ5:=Jnv (HZ3.out.trans (hb35.mono hwp))
 have HXZ5:=Jnv ((hb35.block b0 hb03).trans HXZ3.out)
 have HPZ5:=Jnv ((hb35.block bp hbp3).trans HPZ3.out)
 have HRP:=Jnv ((HOP.out.reads HPB.out).belowB hb35 (fun a e=>by rw[hp0];exact(HOP.out.lt e).2))
 have HAP:Hid (∀a,oP=some a→a.block<p0):=Jnv (fun a e=>by rw[hp0];exact(HOP.out.lt e).2)
 have HW5:=Jnv hw5
 have hc11:y5.cell? ⟨b0,11,none⟩=some (.slice oD n cD):=cell_of_row _ _ 11 _ _ (0,0) HXZ5.out
 clear hw5 hb5 hb35 hc3 hc3' hpt hpt' HW HBA HXZ3 HPZ3 HOP HZ3 HPUT hp0
 go_wp2_with fail
 refine Jnx (X6 p0 _ _ oD n cD l y5 HW5.out (hR0.out.below HZ5.out) (by rw[HLL.out,hnl'];omega)) ?_
 rintro e y6 ⟨rfl,hw6,hb6,-⟩
 rw[HST.out] at hw6
 have HW6:=Jnv hw6
 have HZ6:=Jnv (HZ5.out.trans (hb6.mono hwp))
 have HXZ6:=Jnv ((hb6.block b0 hb03).trans HXZ5.out)
 have HPZ6:=Jnv ((hb6.block bp hbp3).trans HPZ5.out)
 have HRP6:=Jnv (HRP.out.belowB hb6 HAP.out)
 clear hw6 hb6 HW5 HZ5 HXZ5 HPZ5 HRP hc11
 go_wp2_with fail
 refine Jnx (Bits.bytes_any p0 _ y6 HW6.out.wr (by have:=HLN.out 0;omega)) ?_
 rintro e y7 ⟨ob,cb,rfl,ho7,hb7⟩
 have hbx:=hb7.mono (Nat.le_of_lt HW6.out.lt)
 have HR7:=Jnv (ho7.reads HSB.out)
 have HA7:Hid (∀a,ob=some a→a.block<y7.heap.size):=Jnv (fun a e=>(ho7.lt e).2)
 have HW7:=Jnv (HW6.out.below hb7)
 have HZ7:=Jnv (HZ6.out.trans (hbx.mono hwp))
 have HXZ7:=Jnv ((hbx.block b0 hb03).trans HXZ6.out)
 have HPZ7:=Jnv ((hbx.block bp hbp3).trans HPZ6.out)
 have HRP7:=Jnv (HRP6.out.below hb7)
 have hp07:p0<y7.heap.size:=Jnz HW6.out.lt hb7.size
 have HLS:=Jnv (HLN.out 0)
 have HRU:=Jnv (JbP 22 HRP7.out HR7.out (by have:=HPL.out;omega) (by have:=HLS.out;omega) (fun a e=>Nat.lt_trans (HAP.out a e) hp07) HA7.out)
 clear ho7 hb7 hbx HW6 HZ6 HXZ6 HPZ6 HRP6
 go_wp2_with fail
 refine Jnx (Jaw _ 2 2 _ _ HRU.out (by decide)) ?_
 rintro e y8 ⟨rfl,hb8⟩
 have hb78:=Jno (Below.all (Jny y7.heap.size y7) (.cells #[.slice oP PL.length cP,.slice ob (Jo p ty cd 0 (4+(n:Int)) 0 l).length cb] 22)) hb8
 have HW8:=Jnv (HW7.out.below hb78)
 have HZ8:=Jnv (Jno HZ7.out hb78)
 have HXZ8:=Jnv ((hb78.block b0 (Nat.lt_trans hb03 hp07)).trans HXZ7.out)
 have HPZ8:=Jnv ((hb78.block bp (Nat.lt_trans hbp3 hp07)).trans HPZ7.out)
 rw[show[PL,Jo p ty cd 0 (4+(n:Int)) 0 l].flatten=PL++Jo p ty cd 0 (4+(n:Int)) 0 l by simp]
 have hsm:=JaO (PL++Jo p ty cd 0 (4+(n:Int)) 0 l)
 generalize sumOf (PL++Jo p ty cd 0 (4+(n:Int)) 0 l)=sm at*
 have hc0:y8.cell? ⟨b0,0,none⟩=some (.int .u8 p):=cell_of_row _ _ 0 _ _ (0,0) HXZ8.out
 have hc1:y8.cell? ⟨bp,1,none⟩=some (.int .i64 2):=cell_of_row _ _ 1 _ _ (0,0) HPZ8.out
 clear hb8 hb78 HRU HW7 HZ7 HXZ7 HPZ7 HRP7 HR7 HA7
 have hsm0:(0:Int)≤(sm:Int):=Int.natCast_nonneg _
 have hsm1:(sm:Int)<65536:=by omega
 by_cases hz:sm=0
 ·subst hz
  have HF2:Hid (Jaf p ty cd 0 l src dst=Jo p ty cd 0 (4+(n:Int)) ((0:Nat):Int) l):=Jnv (by rw[HFIN.out];simp[hp17])
  go_wp2_with fail
  refine Jnx (Z4 p0 _ 2 0 (by decide) (by decide) y8 HW8.out.wr (by have:=HLS.out;omega) (by have:=HLS.out;omega)) ?_
  rintro e y9 ⟨rfl,hw9,hb9⟩
  have hw9':Wr y9 p0 (Jo p ty cd 0 (4+(n:Int)) ((0:Nat):Int) l):=by
   have e:=HSET.out 0
   rw[show((0:Nat):Int)=0 from rfl] at e⊢
   rw[e] at hw9
   exact hw9
  have HW9:=Jnv hw9'
  clear hw9'
  have HB9:=Jnv (HZ8.out.trans (hb9.mono hwp))
  clear hw9 hb9 HW8
  go_wp2_with fail
  refine Jnx (Bits.bytes_any p0 _ y9 HW9.out (by have:=HLN.out ((0:Nat):Int);omega)) ?_
  rintro e y10 ⟨oz,cz,rfl,hoz,hbz⟩
  have HOZ:=Jnv (hoz.mono HB9.out.size)
  have HBZ:=Jnv (Jno HB9.out hbz)
  clear hoz hbz
  go_wp2_with fail
  go_ret2
  rw[HF2.out]
  exact⟨oz,cz,rfl,HOZ.out,HBZ.out⟩
 ·have hz1:((sm:Int)==0)=false:=by simpa using hz
  have hz2:decide ((sm:Int)=0)=false:=by simpa using hz
  have HF2:Hid (Jaf p ty cd 0 l src dst=Jo p ty cd 0 (4+(n:Int)) (sm:Int) l):=Jnv (by rw[HFIN.out,if_neg (fun h=>hz h.1)])
  go_wp2_with fail
  refine Jnx (Z4 p0 _ 2 sm hsm0 hsm1 y8 HW8.out.wr (by have:=HLS.out;omega) (by have:=HLS.out;omega)) ?_
  rintro e y9 ⟨rfl,hw9,hb9⟩
  rw[HSET.out sm] at hw9
  have HW9:=Jnv hw9
  have HB9:=Jnv (HZ8.out.trans (hb9.mono hwp))
  clear hw9 hb9 HW8
  go_wp2_with fail
  refine Jnx (Bits.bytes_any p0 _ y9 HW9.out (by have:=HLN.out (sm:Int);omega)) ?_
  rintro e y10 ⟨oz,cz,rfl,hoz,hbz⟩
  have HOZ:=Jnv (hoz.mono HB9.out.size)
  have HBZ:=Jnv (Jno HB9.out hbz)
  clear hoz hbz
  go_wp2_with fail
  go_ret2
  rw[HF2.out]
  exact⟨oz,cz,rfl,HOZ.out,HBZ.out⟩
end
end Go.Proofs.YtkgjbipfhhjlpaaGreatDoor
