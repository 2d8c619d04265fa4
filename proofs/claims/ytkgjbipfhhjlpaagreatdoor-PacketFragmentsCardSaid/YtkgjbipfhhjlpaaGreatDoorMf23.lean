import Derived.Test.YtkgjbipfhhjlpaaGreatDoorMf22
set_option linter.unusedVariables false
set_option linter.unusedSimpArgs false
set_option maxRecDepth 100000
set_option maxHeartbeats 32000000
namespace Go.Proofs.YtkgjbipfhhjlpaaGreatDoor
section
open Go.RowKit Bits
theorem Jj3 {R:Ending→World→Prop}{w':World}{tmps cs:Array Value}{u:Value}(b:Nat)(hp:tmps.getD 2 undef=.pointer (some ⟨b,0,none⟩))(h3:tmps.getD 3 undef=u)(hc:Jc w' b 0 42=cs)(hs:cs.size=42)(hR:R (.returned (.tuple #[.agg cs,u])) w'):
 bodyPost Tryz.prog Tryz.f80 R .ret { tmps:=tmps,defers:=[] } w':=
 bodyPost_ret (v:=.tuple #[.agg cs,u]) (QF rfl _ _ b 42 _ _ Tryz.underlying85 rfl JhL hp h3 cs hc hs) rfl hR
theorem Jk1 (oa:Option Addr)(n cap:Nat)(l:List Int)(w:World)(hr:Jj w oa n cap l)(hn:n≤100000):
 Calls Tryz.prog 80 #[.slice oa n cap] w (JbY w (QE l) (JE l)):=by
 have hlen:=hr.len
 have hx:=heap_alloc_new w (.cells Jcr 85)
 have hB:Below w.heap.size w (w.alloc (.cells Jcr 85)):=Below.all (Jny _ _) _
 have HR:=Jnv (hr.alloc (.cells Jcr 85))
 have HBY:=Jnv hr.byte
 unfold Jcr at hx hB HR
 clear hr
 go_enter Tryz.func80,Tryz.ntmps80
 go_wp2_with fail
 obtain⟨b0,hb0⟩:∃b,b=w.heap.size:=⟨_,rfl⟩
 rw[←hb0] at hx⊢
 have HB0:=Jnv hb0
 clear hb0
 generalize w.alloc (.cells (Jn0 false false (.int .i64 0) false false) 85)=wa at*
 refine Jnx (Jem _ _ _ _ _ HR.out hn) ?_
 rintro e w1 (⟨h0,rfl,hb⟩|⟨h0,oe,ce,es,ob,cb,rfl,hes,ho,hb,hck,hbh,hp0,hp1⟩)
 ·have HB1:=Jnv (Jno hB hb)
  have HX1:=Jnv ((hb.block b0 (Jnw hx).1).trans hx)
  have hb1:b0<w1.heap.size:=(Jnw HX1.out).1
  have hb1':b0<w1.heap.size+1:=by omega
  have hrf:Jl w1 b0 42=true:=by rw[Jd _ _ _ _ _ HX1.out];rfl
  have HE:=Jnv h0
  have hne:(JE l != 0)=true:=by simpa using h0
  clear hb hx hB HR h0
  generalize JE l=er at*
  unfold sxZ sxF
  go_wp2_with fail
  refine Jj3 (cs:=Jcr) (u:=.int .i64 er) b0 rfl rfl ?_ rfl (.inl ⟨HE.out,rfl,?_⟩)
  ·exact Jb ((heap_alloc_old _ _ (by simpa using hb1')).trans ((heap_alloc_old _ _ (by simpa using hb1)).trans (Jh HX1.out))) rfl
  ·exact Below.all (Below.all (HB1.out.trans (Jf _ (Nat.le_of_eq HB0.out.symm))) _) _
 have HES:=Jnv hes
 have HO:=Jnv (ho.mono hB.size)
 have HNB:Hid (∀a,ob=some a→a.block≠b0):=Jnv (fun a ha=>by have:=(ho.lt ha).1;have h2:=(Jnw hx).1;omega)
 have HB1:=Jnv (Jno hB hb)
 have HX1:=Jnv ((hb.block b0 (Jnw hx).1).trans hx)
 have HCK:=Jnv hck
 have HBH:=Jnv hbh
 have H00:=Jnv h0
 have HDL:Hid (∀x∈Xw l,x.2.length≤100000):=Jnv (fun x hx=>by
  have:=hck.right x hx
  unfold Qc at this
  split at this<;>simp only[Bool.and_eq_true,decide_eq_true_eq] at this<;>omega)
 have HFR:Hid (∀w' oe es lo,JS w' lo oe ce (Xw l) es→Calls Tryz.prog 141 #[.agg #[.slice oe (Xw l).length ce,.int .u8 (Xx l)]] w' (JhW w' (Xw l))):=Jnv (fun w' oe es lo h=>JkV lo oe ce _ es _ w' h HCK.out HDL.out HBH.out)
 have HOUT:Hid (QE l=⟨true,JM ((l.drop 8).take 16),JM ((l.drop 24).take 16),Xx l,40+w2 l 4,decide (0<ZS (Xw l)),X3 (Xw l),Xl l⟩):=Jnv rfl
 have hl40:40≤l.length:=by
  have h1:ZR l=0:=by
   unfold JE at h0
   by_cases h:ZR l=0
   ·exact h
   ·rw[if_pos h] at h0;exact h0
  unfold ZR at h1
  by_cases h:l.length<40
  ·rw[if_pos h] at h1;cases h1
  ·omega
 have HS:Hid (((l.drop 8).take 16).length=16∧Jm ((l.drop 8).take 16)):=Jnv ⟨by rw[List.length_take,List.length_drop];omega,Qk (J7 HBY.out _) _⟩
 have HD:Hid (((l.drop 24).take 16).length=16∧Jm ((l.drop 24).take 16)):=Jnv ⟨by rw[List.length_take,List.length_drop];omega,Qk (J7 HBY.out _) _⟩
 have HSJ:Hid (∀j,j<16→((l.drop 8).take 16).getD j 0=atB l 8 j):=Jnv (fun j hj=>Xh l 8 16 j hj)
 have HDJ:Hid (∀j,j<16→((l.drop 24).take 16).getD j 0=atB l 24 j):=Jnv (fun j hj=>Xh l 24 16 j hj)
 have hpw:=Zd HBY.out 4
 clear hck hbh hes ho hb hx hB HR h0 hl40 HDL
 unfold sxA sxF
 generalize (l.drop 8).take 16=SL at*
 generalize (l.drop 24).take 16=DL at*
 generalize atB l 8=SB at*
 generalize atB l 24=DB at*
 generalize w2 l 4=tot at*
 generalize w4 l 0/1048576%256=x0 at*
 generalize w4 l 0%1048576=x1 at*
 generalize l.getD 6 0=x6 at*
 generalize l.getD 7 0=x7 at*
 generalize Xx l=pr at*
 obtain⟨xs,hxs⟩:∃xs,Xw l=xs:=⟨_,rfl⟩
 rw[hxs] at HES HFR HOUT HCK⊢
 clear hxs
 obtain⟨kk,hkk⟩:∃k,xs.length=k:=⟨_,rfl⟩
 have HKK:=Jnv hkk
 rw[hkk] at HFR⊢
 clear hkk
 generalize Xl l=L at*
 go_wp2_with fail
 obtain⟨bh,hbh⟩:∃b,b=w1.heap.size:=⟨_,rfl⟩
 have hxa:=heap_alloc_new w1 (.cells (JnP x0 (.int .u32 x1) (.int .u16 tot) x6 x7 SB DB) 118)
 have hba:=Below.all (Jny w1.heap.size w1) (.cells (JnP x0 (.int .u32 x1) (.int .u16 tot) x6 x7 SB DB) 118)
 obtain⟨wb,hwb⟩:∃x,w1.alloc (.cells (JnP x0 (.int .u32 x1) (.int .u16 tot) x6 x7 SB DB) 118)=x:=⟨_,rfl⟩
 have hsb:wb.heap.size=bh+1:=by rw[←hwb,hbh];simp
 rw[hwb] at hxa hba⊢
 have hxc:=heap_alloc_new wb (.cells #[.slice oe kk ce,pr] 96)
 have hbc:=Below.all (Jny wb.heap.size wb) (.cells #[.slice oe kk ce,pr] 96)
 obtain⟨w3,hw3⟩:∃x,wb.alloc (.cells #[.slice oe kk ce,pr] 96)=x:=⟨_,rfl⟩
 rw[hw3,hsb] at hxc
 rw[hw3] at hbc⊢
 rw[←hbh] at hxa⊢
 have hb3:=Jno hba hbc
 have HZ3:=Jnv ((hb3.block b0 (Jnw HX1.out).1).trans HX1.out)
 have HX3:=Jnv ((hbc.block bh (by omega)).trans hxa)
 have HC3:=Jnv hxc
 have HB3:=Jnv (Jno HB1.out hb3)
 have HO3:=Jnv (JI.below HO.out hb3)
 have HES3:=Jnv (HES.out.below hb3)
 clear hxa hba hwb hxc hbc hw3 hb3 hsb hbh HB1 HO HES HX1
 refine Jnx (JcN _ 16 16 SL w3 (XB HX3.out 5 16 SL HS.out.1 HS.out.2 (by decide) (fun j hj=>by rw[HSJ.out j hj];rcases j with _|_|_|_|_|_|_|_|_|_|_|_|_|_|_|_|j;rfl;rfl;rfl;rfl;rfl;rfl;rfl;rfl;rfl;rfl;rfl;rfl;rfl;rfl;rfl;rfl;omega)) (by decide)) ?_
 rintro e w4 ⟨rfl,hb4⟩
 rw[JeG HS.out.1]
 unfold adV
 generalize JM SL=S at*
 have HZ4:=Jnv ((hb4.block b0 (Jnw HZ3.out).1).trans HZ3.out)
 have HX4:=Jnv ((hb4.block bh (Jnw HX3.out).1).trans HX3.out)
 have HC4:=Jnv ((hb4.block (bh+1) (Jnw HC3.out).1).trans HC3.out)
 have HB4:=Jnv (Jno HB3.out hb4)
 have HO4:=Jnv (JI.below HO3.out hb4)
 have HES4:=Jnv (HES3.out.below hb4)
 clear hb4
 clear HZ3 HX3 HC3 HB3 HO3 HES3
 go_wp2_with fail
 obtain⟨bs,hbs⟩:∃b,b=w4.heap.size:=⟨_,rfl⟩
 have hx5:=heap_alloc_new w4 (.cells (JnH true S) 27)
 have hb5:Below w4.heap.size w4 (w4.alloc (.cells (JnH true S) 27)):=Below.all (Jny _ _) _
 rw[←hbs] at hx5⊢
 generalize w4.alloc (.cells (JnH true S) 27)=w5 at*
 have HZ5:=Jnv ((hb5.block b0 (Jnw HZ4.out).1).trans HZ4.out)
 have HX5:=Jnv ((hb5.block bh (Jnw HX4.out).1).trans HX4.out)
 have HC5:=Jnv ((hb5.block (bh+1) (Jnw HC4.out).1).trans HC4.out)
 have HB5:=Jnv (Jno HB4.out hb5)
 have HO5:=Jnv (JI.below HO4.out hb5)
 have HES5:=Jnv (HES4.out.below hb5)
 have HS5:=Jnv hx5
 clear hb5 hx5 hbs
 clear HZ4 HX4 HC4 HB4 HO4 HES4
 refine Jnx (JcN _ 16 16 DL w5 (XB HX5.out 21 16 DL HD.out.1 HD.out.2 (by decide) (fun j hj=>by rw[HDJ.out j hj];rcases j with _|_|_|_|_|_|_|_|_|_|_|_|_|_|_|_|j;rfl;rfl;rfl;rfl;rfl;rfl;rfl;rfl;rfl;rfl;rfl;rfl;rfl;rfl;rfl;rfl;omega)) (by decide)) ?_
 rintro e w6 ⟨rfl,hb6⟩
 rw[JeG HD.out.1]
 unfold adV
 generalize JM DL=D at*
 have HZ6:=Jnv ((hb6.block b0 (Jnw HZ5.out).1).trans HZ5.out)
 have HX6:=Jnv ((hb6.block bh (Jnw HX5.out).1).trans HX5.out)
 have HC6:=Jnv ((hb6.block (bh+1) (Jnw HC5.out).1).trans HC5.out)
 have HS6:=Jnv ((hb6.block bs (Jnw HS5.out).1).trans HS5.out)
 have HB6:=Jnv (Jno HB5.out hb6)
 have HO6:=Jnv (JI.below HO5.out hb6)
 have HES6:=Jnv (HES5.out.below hb6)
 clear hb6
 clear HZ5 HX5 HC5 HS5 HB5 HO5 HES5
 have lc:bh+1<w6.heap.size:=(Jnw HC6.out).1
 have hpc:Jc w6 (bh+1) 0 2=#[.slice oe kk ce,.int .u8 pr]:=Jb HC6.out rfl
 go_wp2_with fail
 obtain⟨bd,hbd⟩:∃b,b=w6.heap.size:=⟨_,rfl⟩
 have hx7:=heap_alloc_new w6 (.cells (JnH true D) 27)
 have hb7:Below w6.heap.size w6 (w6.alloc (.cells (JnH true D) 27)):=Below.all (Jny _ _) _
 rw[←hbd] at hx7⊢
 generalize w6.alloc (.cells (JnH true D) 27)=w7 at*
 have HZ7:=Jnv ((hb7.block b0 (Jnw HZ6.out).1).trans HZ6.out)
 have HX7:=Jnv ((hb7.block bh (Jnw HX6.out).1).trans HX6.out)
 have HC7:=Jnv ((hb7.block (bh+1) (Jnw HC6.out).1).trans HC6.out)
 have HS7:=Jnv ((hb7.block bs (Jnw HS6.out).1).trans HS6.out)
 have HB7:=Jnv (Jno HB6.out hb7)
 have HO7:=Jnv (JI.below HO6.out hb7)
 have HES7:=Jnv (HES6.out.below hb7)
 have HD7:=Jnv hx7
 clear hb7 hx7 hbd lc hpc
 clear HZ6 HX6 HC6 HS6 HB6 HO6 HES6
 refine Jnx (HFR.out _ _ _ _ HES7.out) ?_
 rintro e w8 ⟨⟨id,ok,rfl⟩,hb8⟩
 generalize ZS xs=fo at*
 generalize X3 xs=fm at*
 have HZ8:=Jnv ((hb8.block b0 (Jnw HZ7.out).1).trans HZ7.out)
 have HX8:=Jnv ((hb8.block bh (Jnw HX7.out).1).trans HX7.out)
 have HC8:=Jnv ((hb8.block (bh+1) (Jnw HC7.out).1).trans HC7.out)
 have HS8:=Jnv ((hb8.block bs (Jnw HS7.out).1).trans HS7.out)
 have HD8:=Jnv ((hb8.block bd (Jnw HD7.out).1).trans HD7.out)
 have HB8:=Jnv (Jno HB7.out hb8)
 have HO8:=Jnv (JI.below HO7.out hb8)
 have HES8:=Jnv (HES7.out.below hb8)
 clear hb8
 clear HZ7 HX7 HC7 HS7 HD7 HB7 HO7 HES7
 have lz:b0<w8.heap.size:=(Jnw HZ8.out).1
 have lh:bh<w8.heap.size:=(Jnw HX8.out).1
 have lc:bh+1<w8.heap.size:=(Jnw HC8.out).1
 have ls:bs<w8.heap.size:=(Jnw HS8.out).1
 have ld:bd<w8.heap.size:=(Jnw HD8.out).1
 have hrf:Jl w8 b0 42=true:=by rw[Jd _ _ _ _ _ HZ8.out];rfl
 have hps:Jc w8 bs 0 17=(JnH true S:Array Value):=Jb HS8.out rfl
 have hpd:Jc w8 bd 0 17=(JnH true D:Array Value):=Jb HD8.out rfl
 have c1:=cell_of_row _ _ 1 _ _ (0,0) HC8.out
 have c2:=cell_of_row _ _ 2 _ _ (0,0) HX8.out
 have ht0:=hpw.1
 have ht1:=hpw.2
 go_wp2_with fail
 refine Jj3 (cs:=(JnY true true pr (.int .i64 (40+tot)) (.bool (decide (0<fo))) (.slice ob L.length cb) fm S D)) (u:=.int .i64 0) b0 rfl rfl ?_ rfl ?_
 ·exact Jb ((heap_alloc_old _ _ (by simpa using lz)).trans (Jh HZ8.out)) rfl
 ·show JbY w (QE l) (JE l) _ _
  rw[HOUT.out,H00.out]
  exact .inr ⟨rfl,ob,cb,rfl,JI.below (JI.keep HO8.out (by simp) (fun a ha=>setRow_other _ _ _ _ (by have:=(HNB.out a ha);omega))) (Below.all (Jny _ _) _),Below.all (HB8.out.trans (Jf _ (Nat.le_of_eq HB0.out.symm))) _⟩
def Jlp (w:World)(b:Nat)(u:Jg9)(s6 d6:Bool)(S D:Nat→Int)(p ln:Int)(fr mo:Bool)(oa:Option Addr)(n cap:Nat):Ending→World→Prop:=fun e w'=>∃(sp dp fl:Int),Jbt w b (JnK s6 d6 p (.int .u16 sp) (.int .u16 dp) (.int .i64 ln) fl fr (.slice oa n cap) mo S D) u.err e w'∧(u.err=0→sp=u.src∧dp=u.dst∧fl=u.flags)
theorem JhA (oa:Option Addr)(n cap:Nat)(l:List Int)(i:Nat)(w:World)(hr:Jj w oa n cap l)(hi:i+2≤n)(hn:n≤100000)(iv:Int)(hiv:iv=(i:Int)):Calls Tryz.prog 81 #[.slice oa n cap,.int .i64 iv,.int .i64 2] w (Jk w (.tuple #[.int .u64 (w2 l i),.int .i64 0])):=by
 subst hiv
 have hl:=hr.len
 have:=get_ok oa n cap l i 2 w hr (by decide) (by decide) (by omega) (by omega)
 rwa [QM l i (by omega)] at this
theorem Jj4 (oa:Option Addr)(n cap:Nat)(l:List Int)(i:Nat)(w:World)(hr:Jj w oa n cap l)(hi:n<i+2)(hi2:i≤10)(hn:n≤100000)(iv:Int)(hiv:iv=(i:Int)):Calls Tryz.prog 81 #[.slice oa n cap,.int .i64 iv,.int .i64 2] w (Jk w (.tuple #[.int .u64 0,.int .i64 10])):=by
 subst hiv
 exact get_short oa n cap i 2 w (by decide) (by decide) (by omega) (by omega) (by omega)
theorem JcY (b:Nat)(s6 d6:Bool)(S D:Nat→Int)(p ln:Int)(fr mo:Bool)(oa:Option Addr)(n cap:Nat)(l:List Int)(w:World)(hp:p=6∨p=17∨p=1∨p=58)(hr:Jj w oa n cap l)(hn:n≤100000)(hob:∀a,oa=some a→a.block≠b)
 (hx:w.heap[b]? =some (.cells (JnY s6 d6 p (.int .i64 ln) fr (.slice oa n cap) mo S D) 85 (0,0))):
 Calls Tryz.prog 37 #[.pointer (some ⟨b,0,none⟩)] w (Jlp w b (Jy p l) s6 d6 S D p ln fr mo oa n cap):=by
 have hl:=hr.len
 by_cases hi:JU p=true
 ·have hu:Jy p l=if l.length<2 then ⟨10,0,0,0⟩ else ⟨0,0,w2 l 0,0⟩:=by unfold Jy;rw[if_pos hi]
  by_cases h2:n<2
  ·refine(JgI b s6 d6 S D p 0 0 ln 0 fr mo oa n cap w 0 10 hi (by decide) hx (fun x=>Jj4 oa n cap l 0 x.world (hr.later x) (by omega) (by omega) hn 0 rfl)).mono (fun e w' h=>⟨0,0,0,?_,?_⟩)
   ·rw[hu,if_pos (by omega)];exact h
   ·rw[hu,if_pos (by omega)];intro h;exact absurd h (by decide)
  ·refine(JgI b s6 d6 S D p 0 0 ln 0 fr mo oa n cap w (w2 l 0) 0 hi (Zd hr.byte 0) hx (fun x=>JhA oa n cap l 0 x.world (hr.later x) (by omega) hn 0 rfl)).mono (fun e w' h=>⟨0,w2 l 0,0,?_,?_⟩)
   ·rw[hu,if_neg (by omega)];exact h
   ·rw[hu,if_neg (by omega)];exact fun _=>⟨rfl,rfl,rfl⟩
 have hi':JU p=false:=by simpa using hi
 have hu:Jy p l=if l.length<4 then ⟨10,0,0,0⟩ else ⟨0,w2 l 0,w2 l 2,if p=6∧14≤l.length then l.getD 13 0 else 0⟩:=by unfold Jy;rw[if_neg hi]
 obtain⟨v,e0,hv,hg⟩:∃v e0,(0≤v∧v<65536∧(2≤n→v=w2 l 0))∧∀x:JC w,Calls Tryz.prog 81 #[.slice oa n cap,.int .i64 0,.int .i64 2] x.world (Jk x.world (.tuple #[.int .u64 v,.int .i64 e0])):=by
  by_cases h2:n<2
  ·exact⟨0,10,⟨by decide,by decide,fun h=>by omega⟩,fun x=>Jj4 oa n cap l 0 x.world (hr.later x) (by omega) (by omega) hn 0 rfl⟩
  ·exact⟨w2 l 0,0,⟨(Zd hr.byte 0).1,(Zd hr.byte 0).2,fun _=>rfl⟩,fun x=>JhA oa n cap l 0 x.world (hr.later x) (by omega) hn 0 rfl⟩
 obtain⟨u,e1,hu1,hg2⟩:∃u e1,(0≤u∧u<65536∧(e1=0→4≤n∧u=w2 l 2)∧(n<4→e1=10)∧(4≤n→e1=0))∧∀x:JC w,Calls Tryz.prog 81 #[.slice oa n cap,.int .i64 2,.int .i64 2] x.world (Jk x.world (.tuple #[.int .u64 u,.int .i64 e1])):=by
  by_cases h2:n<4
  ·exact⟨0,10,⟨by decide,by decide,fun h=>by omega,fun _=>rfl,fun h=>by omega⟩,fun x=>Jj4 oa n cap l 2 x.world (hr.later x) (by omega) (by omega) hn 2 rfl⟩
  ·exact⟨w2 l 2,0,⟨(Zd hr.byte 2).1,(Zd hr.byte 2).2,fun _=>⟨by omega,rfl⟩,fun h=>by omega,fun _=>rfl⟩,fun x=>JhA oa n cap l 2 x.world (hr.later x) (by omega) hn 2 rfl⟩
 have herr:(Jy p l).err=e1:=by
  rw[hu]
  by_cases h2:n<4
  ·rw[if_pos (by omega),hu1.2.2.2.1 h2]
  ·rw[if_neg (by omega),hu1.2.2.2.2 (by omega)]
 have hval:∀fl,(4≤n→fl=if p=6∧14≤l.length then l.getD 13 0 else 0)→((Jy p l).err=0→v=(Jy p l).src∧u=(Jy p l).dst∧fl=(Jy p l).flags):=by
  intro fl hfl h0
  rw[herr] at h0
  obtain⟨h4,hue⟩:=hu1.2.2.1 h0
  rw[hu,if_neg (by omega)]
  exact⟨hv.2.2 (by omega),hue,hfl h4⟩
 by_cases h6:p=6
 ·subst h6
  by_cases h14:n<14
  ·refine(Jd3 b s6 d6 S D 0 0 ln 0 fr mo oa n cap w v e0 u e1 h14 ⟨hu1.1,hu1.2.1⟩ ⟨hv.1,hv.2.1⟩ hx hg hg2).mono (fun e w' h=>⟨v,u,0,?_,hval 0 (fun _=>by rw[if_neg (by omega)])⟩)
   rw[herr];exact h
  ·obtain⟨g,off,rfl,hgl,hc⟩:=hr.here (by omega)
   refine(Jfz b s6 d6 S D 0 0 ln 0 fr mo g off n cap w v e0 u e1 (by omega) (l.getD 13 0) (hc 13 (by omega)) (hob _ rfl) hgl ⟨hu1.1,hu1.2.1⟩ ⟨hv.1,hv.2.1⟩ hx hg hg2).mono (fun e w' h=>⟨v,u,l.getD 13 0,?_,hval _ (fun _=>by rw[if_pos ⟨rfl,by omega⟩])⟩)
   rw[herr];exact h
 ·refine(Jk0 b s6 d6 S D p 0 0 ln 0 fr mo oa n cap w v e0 u e1 hi' h6 ⟨hu1.1,hu1.2.1⟩ ⟨hv.1,hv.2.1⟩ hx hg hg2).mono (fun e w' h=>⟨v,u,0,?_,hval 0 (fun _=>by rw[if_neg (fun h=>h6 h.1)])⟩)
  rw[herr];exact h
theorem JcZ (b:Nat)(s6 d6:Bool)(S D:Nat→Int)(p ln:Int)(fr mo:Bool)(oa:Option Addr)(n cap:Nat)(l:List Int)(w:World)(hp:p=6∨p=17∨p=1∨p=58)(hr:Jj w oa n cap l)(hn:n≤100000)
 (hx:w.heap[b]? =some (.cells (JnY s6 d6 p (.int .i64 ln) fr (.slice oa n cap) mo S D) 85 (0,0))):
 Calls Tryz.prog 38 #[.pointer (some ⟨b,0,none⟩)] w (Jlp w b (Jw p l) s6 d6 S D p ln fr mo oa n cap):=
 (JiP b s6 d6 S D p 0 0 ln 0 fr mo oa n cap l w hp hr hn hx).mono (fun e w' h=>⟨_,_,_,h,fun _=>⟨rfl,rfl,rfl⟩⟩)
def JaM:Array Value:=(Jn1 false false (.int .i64 0) false)
theorem Jj5:Zh pkZ=JaM:=rfl
theorem Qb {w w':World}{l:List Int}{tmps cs:Array Value}{err:Int}(b:Nat)(hp:tmps.getD 2 undef=.pointer (some ⟨b,0,none⟩))(h3:tmps.getD 3 undef=.int .i64 err)(hc:Jc w' b 0 40=cs)(hs:cs.size=40)(hv:pkR l=.tuple #[.agg cs,.int .i64 err])(hb:Below w.heap.size w w'):
 bodyPost Tryz.prog Tryz.f11 (Jk w (pkR l)) .ret { tmps:=tmps,defers:=[] } w':=
 bodyPost_ret (v:=.tuple #[.agg cs,.int .i64 err]) (QF rfl _ _ b 40 _ _ Tryz.underlying32 rfl Jkz hp h3 cs hc hs) rfl (.mk hv.symm hb)
theorem XP {l:List Int}{err:Int}(h:Qu l=err)(h0:err≠0):pkR l=.tuple #[.agg JaM,.int .i64 err]:=by
 unfold pkR JiW;rw[h,if_pos h0,Jj5]
def JiR (y:World)(r:Nat)(fl:Option Nat)(w:World):Prop:=Below y.heap.size y w∧y.heap.size≤r∧w.heap[r]? =some (.map XZ 2)∧∀b,fl=some b→y.heap.size≤b∧w.heap[b]? =some (.cells #[.nilFunc] 79 (0,0))
theorem Qf {w:World}{b:Nat}{a c:Array Value}{t:TypeId}(h:w.heap[b]? =some (.cells (a++c) t (0,0)))(hs:a.size=40):Jc w b 0 40=a:=by
 rw[Jn _ _ _ _ _ _ _ h,show(0+40:Nat)=a.size by rw[hs],Array.extract_append]
 simp
theorem JgJ (oa:Option Addr)(n cap:Nat)(l:List Int)(w:World)(hr:Jj w oa n cap l)(hn:2048<n):
 Calls Tryz.prog 11 #[.slice oa n cap] w (Jk w (pkR l)):=by
 have hlen:=hr.len
 have hx:=heap_alloc_new w (.cells JaM 32)
 have hB:Below w.heap.size w (w.alloc (.cells JaM 32)):=Below.all (Jny _ _) _
 have HR:=Jnv (hr.alloc (.cells JaM 32))
 have HBY:=Jnv hr.byte
 unfold JaM at hx hB HR
 clear hr
 have hd:decide ((n:Int)>2048)=true:=by simp;omega
 have HE:=Jnv (XP (l:=l) (err:=3) (by unfold Qu;rw[if_pos (by omega)]) (by decide))
 obtain⟨b0,hb0⟩:∃b,b=w.heap.size:=⟨_,rfl⟩
 have hrf:Jl (w.alloc (.cells (Jn1 false false (.int .i64 0) false) 32)) w.heap.size 40=true:=by rw[Jd _ _ _ _ _ hx];rfl
 have HX:=Jnv hx
 have HB:=Jnv hB
 clear hx hB
 go_enter Tryz.func11,Tryz.ntmps11
 go_wp2_with fail
 exact Qb (cs:=JaM) w.heap.size rfl rfl (Jb HX.out rfl) rfl HE.out HB.out
theorem JhB (oa:Option Addr)(n cap:Nat)(l:List Int)(w:World)(hr:Jj w oa n cap l)(hn:n=0):
 Calls Tryz.prog 11 #[.slice oa n cap] w (Jk w (pkR l)):=by
 have hlen:=hr.len
 have hx:=heap_alloc_new w (.cells JaM 32)
 have hB:Below w.heap.size w (w.alloc (.cells JaM 32)):=Below.all (Jny _ _) _
 have HR:=Jnv (hr.alloc (.cells JaM 32))
 have HBY:=Jnv hr.byte
 unfold JaM at hx hB HR
 clear hr
 have hd:decide ((n:Int)>2048)=false:=by simp;omega
 have hd2:((n:Int)==0)=true:=by simp;omega
 have HE:=Jnv (XP (l:=l) (err:=10) (by unfold Qu;rw[if_neg (by omega),if_pos (by omega)]) (by decide))
 obtain⟨b0,hb0⟩:∃b,b=w.heap.size:=⟨_,rfl⟩
 have hrf:Jl (w.alloc (.cells (Jn1 false false (.int .i64 0) false) 32)) w.heap.size 40=true:=by rw[Jd _ _ _ _ _ hx];rfl
 have HX:=Jnv hx
 have HB:=Jnv hB
 clear hx hB
 go_enter Tryz.func11,Tryz.ntmps11
 go_wp2_with fail
 exact Qb (cs:=JaM) w.heap.size rfl rfl (Jb HX.out rfl) rfl HE.out HB.out
theorem JcM (oa:Option Addr)(n cap:Nat)(l:List Int)(w:World)(hr:Jj w oa n cap l)(hn1:0<n)(hn2:n≤2048)(hk:¬l.getD 0 0/16=4∧¬l.getD 0 0/16=6):
 Calls Tryz.prog 11 #[.slice oa n cap] w (Jk w (pkR l)):=by
 obtain⟨g,off,rfl,hgl,hcs⟩:=hr.here hn1
 have hc0:=hcs 0 hn1
 have hx0:=Qr hr.byte 0
 rw[Nat.add_zero] at hc0
 obtain⟨x0,e0⟩:∃x:Nat,l.getD 0 0=(x:Int):=⟨(l.getD 0 0).toNat,by omega⟩
 have HE0:=Jnv e0
 rw[e0] at hc0 hx0 hk
 have hd:decide ((n:Int)>2048)=false:=by simp;omega
 have hd2:((n:Int)==0)=false:=by simp;omega
 have hn0:(0:Int)<(n:Int):=by omega
 have hlen:=hr.len
 have hx:=heap_alloc_new w (.cells JaM 32)
 have hB:Below w.heap.size w (w.alloc (.cells JaM 32)):=Below.all (Jny _ _) _
 have HR:=Jnv (hr.alloc (.cells JaM 32))
 have HBY:=Jnv hr.byte
 unfold JaM at hx hB HR
 clear hr
 have hcy:=(Jg hB hgl (⟨g,off,none⟩:Addr) rfl).trans hc0
 have hgy:g<(w.alloc (.cells (Jn1 false false (.int .i64 0) false) 32)).heap.size:=Jnz hgl hB.size
 have HLK:Hid (∀r w',w'.heap[r]? =some (.map XZ 2)→(Instr.lookup 81 (.map (some r)) (.int .u8 ((x0:Int)/16)) true).run Tryz.prog w'=.ok (.tuple #[.agg #[.nilFunc],false]) w'):=Jnv (fun r w' h=>JdA _ hk.1 hk.2 r w' h)
 clear hcs e0 hc0
 go_enter Tryz.func11,Tryz.ntmps11
 go_wp2_with fail
 obtain⟨b0,hb0⟩:∃b,b=w.heap.size:=⟨_,rfl⟩
 rw[←hb0] at hx⊢
 have HB0:=Jnv hb0
 clear hb0
 generalize w.alloc (.cells (Jn1 false false (.int .i64 0) false) 32)=y at*
 have hb0y:b0<y.heap.size:=(Jnw hx).1
 have HX:=Jnv hx
 have HB:=Jnv hB
 clear hx hB
 refine JG [.w,.h,.h,.h,.h] [(1,1,0),(2,1,0),(3,1,0),(4,1,0)] (fun _ w'=>w'.cell? ⟨g,off,none⟩=some (.int .u8 (x0:Int))) [1] [(.w,0),(.w,5),(.q,6),(.q,7),(.q,8)] [(.w,10),(.q,11)] 9 (.cells #[.nilFunc] 79) (by kernel_rfl) (by kernel_rfl) rfl rfl ⟨fun _=>rfl,fun _ _=>by kernel_rfl⟩ (by kernel_rfl) (by kernel_rfl) ?_
 apply Exists.intro
 refine⟨fun wx hbx=>?_,?_,?_⟩
 ·have hcx:wx.cell? ⟨g,off,none⟩=some (.int .u8 (x0:Int)):=(Jg hbx hgy _ rfl).trans hcy
  have hbx2:g<wx.heap.size:=Jnz hgy hbx.size
  simp only[Ju]
  repeat go_big_quiet_step (fail)
  exact wpQuiet_nil rfl
 ·intro q hq oi hoi
  simp only[List.mem_cons,List.not_mem_nil,or_false] at hq
  rcases hq with rfl|rfl|rfl|rfl
  ·cases hoi;exact⟨_,rfl,rfl,fun w2 hw=>by kernel_rfl⟩
  ·cases hoi;exact⟨_,rfl,rfl,fun w2 hw=>by simp[execOp,go_sem,hn0];intro h;exfalso;omega⟩
  ·cases hoi;exact⟨_,rfl,rfl,fun w2 hw=>by simp[execOp,go_sem,hw]⟩
  ·cases hoi;exact⟨_,rfl,rfl,fun w2 hw=>by simp[execOp,go_sem,hw]⟩
 simp only[JY,List.getElem?_cons_succ,List.getElem?_cons_zero]
 refine⟨fun v fl w2=>∃r,v=.map (some r)∧JiR y r fl w2,?_,?_,?_,?_⟩
 ·rintro fl-
  refine⟨rfl,fun w' hw'=>.inr ⟨34,#[],by kernel_rfl,?_⟩⟩
  obtain⟨⟨x,rfl⟩,hfb⟩:=hw'
  refine(JaI x.world).mono ?_
  rintro e w2 ⟨r,rfl,hr1,hr2,hb2⟩
  refine⟨_,rfl,r,rfl,Jno x.below hb2,Nat.le_trans x.below.size hr1,hr2,fun b hb'=>⟨(hfb b hb').1,?_⟩⟩
  have:=(hfb b hb').2
  exact(hb2.block b (Jnw this).1).trans this
 ·rintro v fl g'-w2 ⟨r,-,hst⟩
  exact(Jg hst.1 hgy _ rfl).trans hcy
 ·rintro-v w2 ⟨r,rfl,h1,h2,h3,-⟩
  exact⟨r,rfl,Below.all h1 _,h2,(heap_alloc_old _ _ (Jnw h3).1).trans h3,fun b hb'=>by cases hb';exact⟨h1.size,heap_alloc_new _ _⟩⟩
 rintro v ⟨fl0,w20,r,rfl,-⟩
 refine⟨fun v fl w2=>v=.tuple #[.agg #[.nilFunc],false]∧JiR y r fl w2,?_,fun _ _=>Jz rfl,?_,?_⟩
 ·rintro fl-
  refine Jv.made rfl ?_
  rintro w' ⟨r',hr',hst⟩
  cases hr'
  exact⟨.tuple #[.agg #[.nilFunc],false],w',QH _ _ (vm:=.map (some r)) (vx:=.int .u8 ((x0:Int)/16)) (by kernel_rfl) (by kernel_rfl) (HLK.out r w' hst.2.2.1),rfl,hst⟩
 ·rintro-v w2 ⟨h0,h1,h2,h3,-⟩
  exact⟨h0,Below.all h1 _,h2,(heap_alloc_old _ _ (Jnw h3).1).trans h3,fun b hb'=>by cases hb';exact⟨h1.size,heap_alloc_new _ _⟩⟩
 rintro v ⟨fl1,w21,rfl,-⟩
 refine⟨.tuple #[.agg #[.nilFunc],false],⟨rfl,fun _=>by kernel_rfl⟩,?_⟩
 refine⟨.agg #[.nilFunc],⟨rfl,fun _=>by kernel_rfl⟩,?_⟩
 refine⟨.bool false,⟨rfl,fun _=>by kernel_rfl⟩,?_⟩
 intro bp
 refine⟨fun v fl w2=>v=undef∧Below y.heap.size y w2∧y.heap.size≤bp∧w2.heap[bp]? =some (.cells #[.nilFunc] 79 (0,0)),?_,fun _ _=>Jz rfl,(fun h=>by cases h),?_⟩
 ·rintro fl rfl
  refine Jv.skip rfl ?_
  rintro w' ⟨-,hst⟩
  obtain⟨hbge,hbx⟩:=hst.2.2.2 bp rfl
  have q1:=cell_of_row _ _ 0 _ _ (0,0) hbx
  have q2:=frozen_of_row _ _ 0 _ _ hbx
  refine⟨_,?_,hst.1.setCell (p:=⟨bp,0,none⟩) hbge (.nilFunc),hbge,(heap_setCell_same _ bp 0 _ _ (.nilFunc) hbx).trans rfl⟩
  simp[execOp,go_sem,QQ,q1,q2]
 rintro v ⟨fl2,w22,rfl,-⟩
 refine⟨.bool false,⟨rfl,fun _=>by kernel_rfl⟩,?_⟩
 rintro zz ⟨-,hzz,hbge,hpz⟩
 have HZ:=Jnv (Jno HB.out hzz)
 have HXZ:=Jnv ((hzz.block b0 hb0y).trans HX.out)
 have HRZ:=Jnv (HR.out.below hzz)
 have HPZ:=Jnv hpz
 have hb0z:b0<zz.heap.size:=Jnz hb0y hzz.size
 have hne:bp≠b0:=by omega
 have hrf:Jl zz b0 40=true:=by rw[Jd _ _ _ _ _ HXZ.out];rfl
 clear hzz hpz hbge hcy hgy hb0y w20 w21 w22 fl0 fl1 fl2 HX HB HR HLK
 unfold QQ
 simp only[Act.put,List.setIfInBounds_toArray,List.set_cons_succ,List.set_cons_zero]
 have HE:=Jnv (XP (l:=l) (err:=50) (by unfold Qu;rw[if_neg (by omega),if_neg (by omega),HE0.out,if_neg hk.1,if_neg hk.2]) (by decide))
 clear hk
 go_wp2_with fail
 exact Qb (cs:=JaM) b0 rfl rfl (Jb (Jh HXZ.out) rfl) rfl HE.out (HZ.out.trans (Jf _ (Nat.le_of_eq HB0.out.symm)))
theorem Jj6 {l:List Int}(h:Jm l):Jm (Qj l).body:=Qk (J7 h _) _
theorem Jk2 {l:List Int}(h:Jm l):Jm (QE l).body:=J7 (Qk (J7 h _) _) _
theorem Jk3 (l:List Int):(Qj l).body.length≤l.length:=by
 show(Jan l).length≤_;unfold Jan;rw[List.length_take,List.length_drop];omega
theorem JlX (l:List Int):(QE l).body.length≤l.length:=by
 show(Xl l).length≤_;unfold Xl;rw[List.length_drop,List.length_take,List.length_drop];omega
theorem JdH (oa:Option Addr)(n cap:Nat)(l:List Int)(w:World)(hr:Jj w oa n cap l)(hn1:0<n)(hn2:n≤2048)(hk:l.getD 0 0/16=4):
 Calls Tryz.prog 11 #[.slice oa n cap] w (Jk w (pkR l)):=by
 obtain⟨g,off,rfl,hgl,hcs⟩:=hr.here hn1
 have hc0:=hcs 0 hn1
 have hx0:=Qr hr.byte 0
 rw[Nat.add_zero] at hc0
 obtain⟨x0,e0⟩:∃x:Nat,l.getD 0 0=(x:Int):=⟨(l.getD 0 0).toNat,by omega⟩
 have HE0:=Jnv e0
 rw[e0] at hc0 hx0 hk
 have hd:decide ((n:Int)>2048)=false:=by simp;omega
 have hd2:((n:Int)==0)=false:=by simp;omega
 have hn0:(0:Int)<(n:Int):=by omega
 have hlen:=hr.len
 have hx:=heap_alloc_new w (.cells JaM 32)
 have hB:Below w.heap.size w (w.alloc (.cells JaM 32)):=Below.all (Jny _ _) _
 have HR:=Jnv (hr.alloc (.cells JaM 32))
 have HBY:=Jnv hr.byte
 unfold JaM at hx hB HR
 clear hr
 have hcy:=(Jg hB hgl (⟨g,off,none⟩:Addr) rfl).trans hc0
 have hgy:g<(w.alloc (.cells (Jn1 false false (.int .i64 0) false) 32)).heap.size:=Jnz hgl hB.size
 have HLK:Hid (∀r w',w'.heap[r]? =some (.map XZ 2)→(Instr.lookup 81 (.map (some r)) (.int .u8 4) true).run Tryz.prog w'=.ok (.tuple #[.agg #[.func (.func 79) #[] #[]],true]) w'):=Jnv (fun r w' h=>Jdz r w' h)
 clear hcs e0 hc0
 go_enter Tryz.func11,Tryz.ntmps11
 go_wp2_with fail
 obtain⟨b0,hb0⟩:∃b,b=w.heap.size:=⟨_,rfl⟩
 rw[←hb0] at hx⊢
 have HB0:=Jnv hb0
 clear hb0
 generalize w.alloc (.cells (Jn1 false false (.int .i64 0) false) 32)=y at*
 have hb0y:b0<y.heap.size:=(Jnw hx).1
 have HX:=Jnv hx
 have HB:=Jnv hB
 clear hx hB
 refine JG [.w,.h,.h,.h,.h] [(1,1,0),(2,1,0),(3,1,0),(4,1,0)] (fun _ w'=>w'.cell? ⟨g,off,none⟩=some (.int .u8 (x0:Int))) [1] [(.w,0),(.w,5),(.q,6),(.q,7),(.q,8)] [(.w,10),(.q,11)] 9 (.cells #[.nilFunc] 79) (by kernel_rfl) (by kernel_rfl) rfl rfl ⟨fun _=>rfl,fun _ _=>by kernel_rfl⟩ (by kernel_rfl) (by kernel_rfl) ?_
 apply Exists.intro
 refine⟨fun wx hbx=>?_,?_,?_⟩
 ·have hcx:wx.cell? ⟨g,off,none⟩=some (.int .u8 (x0:Int)):=(Jg hbx hgy _ rfl).trans hcy
  have hbx2:g<wx.heap.size:=Jnz hgy hbx.size
  simp only[Ju]
  repeat go_big_quiet_step (fail)
  exact wpQuiet_nil rfl
 ·intro q hq oi hoi
  simp only[List.mem_cons,List.not_mem_nil,or_false] at hq
  rcases hq with rfl|rfl|rfl|rfl
  ·cases hoi;exact⟨_,rfl,rfl,fun w2 hw=>by kernel_rfl⟩
  ·cases hoi;exact⟨_,rfl,rfl,fun w2 hw=>by simp[execOp,go_sem,hn0];intro h;exfalso;omega⟩
  ·cases hoi;exact⟨_,rfl,rfl,fun w2 hw=>by simp[execOp,go_sem,hw]⟩
  ·cases hoi;exact⟨_,rfl,rfl,fun w2 hw=>by simp[execOp,go_sem,hw,hk]⟩
 simp only[JY,List.getElem?_cons_succ,List.getElem?_cons_zero]
 refine⟨fun v fl w2=>∃r,v=.map (some r)∧JiR y r fl w2,?_,?_,?_,?_⟩
 ·rintro fl-
  refine⟨rfl,fun w' hw'=>.inr ⟨34,#[],by kernel_rfl,?_⟩⟩
  obtain⟨⟨x,rfl⟩,hfb⟩:=hw'
  refine(JaI x.world).mono ?_
  rintro e w2 ⟨r,rfl,hr1,hr2,hb2⟩
  refine⟨_,rfl,r,rfl,Jno x.below hb2,Nat.le_trans x.below.size hr1,hr2,fun b hb'=>⟨(hfb b hb').1,?_⟩⟩
  have:=(hfb b hb').2
  exact(hb2.block b (Jnw this).1).trans this
 ·rintro v fl g'-w2 ⟨r,-,hst⟩
  exact(Jg hst.1 hgy _ rfl).trans hcy
 ·rintro-v w2 ⟨r,rfl,h1,h2,h3,-⟩
  exact⟨r,rfl,Below.all h1 _,h2,(heap_alloc_old _ _ (Jnw h3).1).trans h3,fun b hb'=>by cases hb';exact⟨h1.size,heap_alloc_new _ _⟩⟩
 rintro v ⟨fl0,w20,r,rfl,-⟩
 refine⟨fun v fl w2=>v=.tuple #[.agg #[.func (.func 79) #[] #[]],true]∧JiR y r fl w2,?_,fun _ _=>Jz rfl,?_,?_⟩
 ·rintro fl-
  refine Jv.made rfl ?_
  rintro w' ⟨r',hr',hst⟩
  cases hr'
  exact⟨.tuple #[.agg #[.func (.func 79) #[] #[]],true],w',QH _ _ (vm:=.map (some r)) (vx:=.int .u8 4) (by kernel_rfl) (by kernel_rfl) (HLK.out r w' hst.2.2.1),rfl,hst⟩
 ·rintro-v w2 ⟨h0,h1,h2,h3,-⟩
  exact⟨h0,Below.all h1 _,h2,(heap_alloc_old _ _ (Jnw h3).1).trans h3,fun b hb'=>by cases hb';exact⟨h1.size,heap_alloc_new _ _⟩⟩
 rintro v ⟨fl1,w21,rfl,-⟩
 refine⟨.tuple #[.agg #[.func (.func 79) #[] #[]],true],⟨rfl,fun _=>by kernel_rfl⟩,?_⟩
 refine⟨.agg #[.func (.func 79) #[] #[]],⟨rfl,fun _=>by kernel_rfl⟩,?_⟩
 refine⟨.bool true,⟨rfl,fun _=>by kernel_rfl⟩,?_⟩
 intro bp
 refine⟨fun v fl w2=>v=undef∧Below y.heap.size y w2∧y.heap.size≤bp∧w2.heap[bp]? =some (.cells #[.func (.func 79) #[] #[]] 79 (0,0)),?_,fun _ _=>Jz rfl,(fun h=>by cases h),?_⟩
 ·rintro fl rfl
  refine Jv.skip rfl ?_
  rintro w' ⟨-,hst⟩
  obtain⟨hbge,hbx⟩:=hst.2.2.2 bp rfl
  have q1:=cell_of_row _ _ 0 _ _ (0,0) hbx
  have q2:=frozen_of_row _ _ 0 _ _ hbx
  refine⟨_,?_,hst.1.setCell (p:=⟨bp,0,none⟩) hbge (.func (.func 79) #[] #[]),hbge,(heap_setCell_same _ bp 0 _ _ (.func (.func 79) #[] #[]) hbx).trans rfl⟩
  simp[execOp,go_sem,QQ,q1,q2]
 rintro v ⟨fl2,w22,rfl,-⟩
 refine⟨.bool true,⟨rfl,fun _=>by kernel_rfl⟩,?_⟩
 rintro zz ⟨-,hzz,hbge,hpz⟩
 have HZ:=Jnv (Jno HB.out hzz)
 have HXZ:=Jnv ((hzz.block b0 hb0y).trans HX.out)
 have HRZ:=Jnv (HR.out.below hzz)
 have HPZ:=Jnv hpz
 have hb0z:b0<zz.heap.size:=Jnz hb0y hzz.size
 have hne:bp≠b0:=by omega
 have hrf:Jl zz b0 40=true:=by rw[Jd _ _ _ _ _ HXZ.out];rfl
 clear hzz hpz hbge hcy hgy hb0y w20 w21 w22 fl0 fl1 fl2 HX HB HR HLK
 unfold QQ
 simp only[Act.put,List.setIfInBounds_toArray,List.set_cons_succ,List.set_cons_zero]
 have c0:=cell_of_row _ _ 0 _ _ (0,0) HPZ.out
 have lp:bp<zz.heap.size:=(Jnw HPZ.out).1
 have HER:Hid (Qu l=if JA l≠0 then JA l else (Ja6 (Qj l)).err):=Jnv (by unfold Qu;rw[if_neg (by omega),if_neg (by omega),HE0.out,hk];rw[if_pos rfl])
 have HOF:Hid (Qu l=0→JiW l=Jig (Qj l) (Ja6 (Qj l))):=Jnv (fun h=>by unfold JiW;rw[h,if_neg (by decide),HE0.out,hk];rfl)
 clear hk
 go_wp2_with fail
 refine Jnx (Jj2 _ _ _ _ _ HRZ.out (by omega)) ?_
 rintro e z1 (⟨h0,rfl,hb⟩|⟨h0,ob,cb,rfl,ho,hb⟩)
 ·have HE:=Jnv (XP (l:=l) (err:=JA l) (by rw[HER.out,if_pos h0]) h0)
  have hne0:(JA l==0)=false:=by simpa using h0
  have hne1:(JA l != 0)=true:=by simpa using h0
  have HB1:=Jnv (Jno HZ.out hb)
  have HX1:=Jnv ((hb.block b0 hb0z).trans HXZ.out)
  have hb01:b0<z1.heap.size:=Jnz hb0z hb.size
  clear hb h0 HZ HXZ HRZ HPZ c0 lp hrf HER HOF
  generalize JA l=er at*
  unfold Jcr
  go_wp2_with fail
  have hxo:=heap_alloc_new z1 (.cells (Jn0 false false (.int .i64 0) false false) 85)
  have hbo:Below z1.heap.size z1 (z1.alloc (.cells (Jn0 false false (.int .i64 0) false false) 85)):=Below.all (Jny _ _) _
  generalize z1.alloc (.cells (Jn0 false false (.int .i64 0) false false) 85)=z2 at*
  have HX2:=Jnv ((hbo.block b0 hb01).trans HX1.out)
  have HB2:=Jnv (Jno HB1.out hbo)
  obtain⟨bo,hboe⟩:∃b,b=z1.heap.size:=⟨_,rfl⟩
  rw[←hboe] at hxo⊢
  have HO2:=Jnv hxo
  clear hxo hbo HX1 HB1 hboe hb01
  refine Jnx (Xg 0 _) ?_
  rintro e z3 ⟨rfl,hb3⟩
  rw[show JW 0=false from rfl]
  have HX3:=Jnv ((hb3.block b0 (Jnw HX2.out).1).trans HX2.out)
  have HO3:=Jnv ((hb3.block bo (Jnw HO2.out).1).trans HO2.out)
  have HB3:=Jnv (Jno HB2.out hb3)
  have lo3:bo<z3.heap.size:=(Jnw HO3.out).1
  have c34:=cell_of_row _ _ 34 _ _ (0,0) HO3.out
  clear hb3 HX2 HO2 HB2
  go_wp2_with fail
  refine Jnx (QJ 0 _) ?_
  rintro e z4 ⟨rfl,hb4⟩
  rw[show JU 0=false from rfl]
  have HX4:=Jnv ((hb4.block b0 (Jnw HX3.out).1).trans HX3.out)
  have HB4:=Jnv (Jno HB3.out hb4)
  have hrf:Jl z4 b0 40=true:=by rw[Jd _ _ _ _ _ HX4.out];rfl
  clear hb4 HX3 HB3 HO3 c34 lo3
  go_wp2_with fail
  exact Qb (cs:=JaM) b0 rfl rfl (Jb (Jh HX4.out) rfl) rfl HE.out (HB4.out.trans (Jf _ (Nat.le_of_eq HB0.out.symm)))
 have HOUT:Hid (Qj l=⟨false,(Qj l).src,(Qj l).dst,(Qj l).proto,(Qj l).len,(Qj l).frag,(Qj l).more,(Qj l).body⟩):=Jnv rfl
 have HBB:=Jnv (Jj6 (l:=l) HBY.out)
 have HBL:=Jnv (Jk3 l)
 have hER2:Qu l=(Ja6 (Qj l)).err:=by rw[HER.out,if_neg (by rw[h0];decide)]
 have HER2:=Jnv hER2
 have HB1:=Jnv (Jno HZ.out hb)
 have HX1:=Jnv ((hb.block b0 hb0z).trans HXZ.out)
 have hb01:b0<z1.heap.size:=Jnz hb0z hb.size
 have HLO:=Jnv (fun a (ha:ob=some a)=>(ho.lt ha))
 have HOW:=Jnv ho
 clear hb h0 HZ HXZ HRZ HPZ c0 lp hrf hER2 HER ho hb0z
 unfold JmS
 generalize Qj l=O at*
 obtain⟨o6,S,D,p,ln,fr,mo,L⟩:=O
 simp only at HOUT HBB HBL HER2 HOF HOW⊢
 obtain rfl:o6=false:=congrArg Jb8.six HOUT.out
 have HRB:=Jnv (HOW.out.reads HBB.out)
 obtain⟨nb,hnb⟩:∃n,L.length=n:=⟨_,rfl⟩
 have HNB:=Jnv hnb
 rw[hnb] at HRB HBL⊢
 clear hnb HOW HOUT
 go_wp2_with fail
 have hxo:=heap_alloc_new z1 (.cells (JnY false false p (.int .i64 ln) fr (.slice ob nb cb) mo S D) 85)
 have hbo:Below z1.heap.size z1 (z1.alloc (.cells (JnY false false p (.int .i64 ln) fr (.slice ob nb cb) mo S D) 85)):=Below.all (Jny _ _) _
 generalize z1.alloc (.cells (JnY false false p (.int .i64 ln) fr (.slice ob nb cb) mo S D) 85)=z2 at*
 have HX2:=Jnv ((hbo.block b0 hb01).trans HX1.out)
 have HB2:=Jnv (Jno HB1.out hbo)
 have HR2:=Jnv (HRB.out.below hbo)
 obtain⟨bo,hboe⟩:∃b,b=z1.heap.size:=⟨_,rfl⟩
 rw[←hboe] at hxo⊢
 have HO2:=Jnv hxo
 have HNE:Hid ((∀a,ob=some a→a.block≠bo)∧bo≠b0):=Jnv ⟨fun a ha=>by have:=(HLO.out a ha).2;omega,by omega⟩
 have HLB:Hid (w.heap.size≤bo):=Jnv (by rw[hboe];exact HB1.out.size)
 clear hxo hbo HX1 HB1 hboe hb01 HLO HRB hne
 refine Jnx (Xg p _) ?_
 rintro e z3 ⟨rfl,hb3⟩
 have HX3:=Jnv ((hb3.block b0 (Jnw HX2.out).1).trans HX2.out)
 have HO3:=Jnv ((hb3.block bo (Jnw HO2.out).1).trans HO2.out)
 have HB3:=Jnv (Jno HB2.out hb3)
 have HR3:=Jnv (HR2.out.below hb3)
 clear hb3 HX2 HO2 HB2 HR2
 have HPI:Hid ((JW p=true→p=6∨p=17∨p=1∨p=58)∧(JU p=true→p=6∨p=17∨p=1∨p=58)):=Jnv ⟨fun h=>by unfold JW at h;simp at h;omega,fun h=>by unfold JU at h;simp at h;omega⟩
 have HUP:Hid (Ja6 ⟨false,S,D,p,ln,fr,mo,L⟩=if (JW p||JU p)&&!fr then (if mo then Jy p L else Jw p L) else ⟨0,0,0,0⟩):=Jnv rfl
 have HIC:Hid (∀w',Calls Tryz.prog 36 #[p] w' (Jk w' (.bool (JU p)))):=Jnv (fun w'=>QJ p w')
 obtain⟨P1,hP1⟩:∃b,JW p=b:=⟨_,rfl⟩
 obtain⟨I1,hI1⟩:∃b,JU p=b:=⟨_,rfl⟩
 rw[hP1,hI1] at HUP HPI
 rw[hI1] at HIC
 rw[hP1]
 clear hP1 hI1
 cases P1
 ·cases I1
  ·skip
   have lo3:bo<z3.heap.size:=(Jnw HO3.out).1
   have c34:=cell_of_row _ _ 34 _ _ (0,0) HO3.out
   have c39:=cell_of_row _ _ 39 _ _ (0,0) HO3.out
   have c41:=cell_of_row _ _ 41 _ _ (0,0) HO3.out
   have hU:Ja6 ⟨false,S,D,p,ln,fr,mo,L⟩=⟨0,0,0,0⟩:=by rw[HUP.out];rfl
   have hE:Qu l=0:=by rw[HER2.out,hU]
   have HV:Hid (pkR l=.tuple #[.agg #[.bool false,.int .u8 (S 0),.int .u8 (S 1),.int .u8 (S 2),.int .u8 (S 3),.int .u8 (S 4),.int .u8 (S 5),.int .u8 (S 6),.int .u8 (S 7),.int .u8 (S 8),.int .u8 (S 9),.int .u8 (S 10),.int .u8 (S 11),.int .u8 (S 12),.int .u8 (S 13),.int .u8 (S 14),.int .u8 (S 15),.bool false,.int .u8 (D 0),.int .u8 (D 1),.int .u8 (D 2),.int .u8 (D 3),.int .u8 (D 4),.int .u8 (D 5),.int .u8 (D 6),.int .u8 (D 7),.int .u8 (D 8),.int .u8 (D 9),.int .u8 (D 10),.int .u8 (D 11),.int .u8 (D 12),.int .u8 (D 13),.int .u8 (D 14),.int .u8 (D 15),.int .u8 p,.int .u16 0,.int .u16 0,.int .i64 ln,.int .u8 0,.bool fr],.int .i64 0]):=Jnv (by unfold pkR;rw[hE,HOF.out hE,hU];rfl)
   clear hU hE HUP HER2 HOF
   clear c39 c41
   go_wp2_with fail
   refine Jnx (HIC.out _) ?_
   rintro e z4 ⟨rfl,hb4⟩
   have HX4:=Jnv ((hb4.block b0 (Jnw HX3.out).1).trans HX3.out)
   have HO4:=Jnv ((hb4.block bo (Jnw HO3.out).1).trans HO3.out)
   have HB4:=Jnv (Jno HB3.out hb4)
   have HR4:=Jnv (HR3.out.below hb4)
   clear hb4 c34 lo3 HX3 HO3 HB3 HR3
   have lo4:bo<z4.heap.size:=(Jnw HO4.out).1
   have c39:=cell_of_row _ _ 39 _ _ (0,0) HO4.out
   have c41:=cell_of_row _ _ 41 _ _ (0,0) HO4.out
   have hpt:Jc z4 bo 0 40=(JnL false false p (.int .i64 ln) fr S D:Array Value):=Qf (a:=(JnL false false p (.int .i64 ln) fr S D)) (c:=#[.slice ob nb cb,mo]) HO4.out rfl
   have hrf:Jl z4 b0 40=true:=by rw[Jd _ _ _ _ _ HX4.out];rfl
   go_wp2_with fail
   exact Qb (cs:=(JnL false false p (.int .i64 ln) fr S D)) b0 rfl rfl (Jb (Jh HX4.out) rfl) rfl HV.out (HB4.out.trans (Jf _ (Nat.le_of_eq HB0.out.symm)))
  ·cases fr
   ·cases mo
    ·skip
     have lo3:bo<z3.heap.size:=(Jnw HO3.out).1
     have c34:=cell_of_row _ _ 34 _ _ (0,0) HO3.out
     have c39:=cell_of_row _ _ 39 _ _ (0,0) HO3.out
     have c41:=cell_of_row _ _ 41 _ _ (0,0) HO3.out
     clear c39 c41
     go_wp2_with fail
     refine Jnx (HIC.out _) ?_
     rintro e z4 ⟨rfl,hb4⟩
     have HX4:=Jnv ((hb4.block b0 (Jnw HX3.out).1).trans HX3.out)
     have HO4:=Jnv ((hb4.block bo (Jnw HO3.out).1).trans HO3.out)
     have HB4:=Jnv (Jno HB3.out hb4)
     have HR4:=Jnv (HR3.out.below hb4)
     clear hb4 c34 lo3 HX3 HO3 HB3 HR3
     have lo4:bo<z4.heap.size:=(Jnw HO4.out).1
     have c39:=cell_of_row _ _ 39 _ _ (0,0) HO4.out
     have c41:=cell_of_row _ _ 41 _ _ (0,0) HO4.out
     have hU:Ja6 ⟨false,S,D,p,ln,false,false,L⟩=Jw p L:=by rw[HUP.out];rfl
     have hE:Qu l=(Jw p L).err:=by rw[HER2.out,hU]
     have HE2:=Jnv hE
     have HV:Hid (Qu l=0→pkR l=.tuple #[.agg #[.bool false,.int .u8 (S 0),.int .u8 (S 1),.int .u8 (S 2),.int .u8 (S 3),.int .u8 (S 4),.int .u8 (S 5),.int .u8 (S 6),.int .u8 (S 7),.int .u8 (S 8),.int .u8 (S 9),.int .u8 (S 10),.int .u8 (S 11),.int .u8 (S 12),.int .u8 (S 13),.int .u8 (S 14),.int .u8 (S 15),.bool false,.int .u8 (D 0),.int .u8 (D 1),.int .u8 (D 2),.int .u8 (D 3),.int .u8 (D 4),.int .u8 (D 5),.int .u8 (D 6),.int .u8 (D 7),.int .u8 (D 8),.int .u8 (D 9),.int .u8 (D 10),.int .u8 (D 11),.int .u8 (D 12),.int .u8 (D 13),.int .u8 (D 14),.int .u8 (D 15),.int .u8 p,.int .u16 (Jw p L).src,.int .u16 (Jw p L).dst,.int .i64 ln,.int .u8 (Jw p L).flags,.bool false],.int .i64 0]):=Jnv (fun h=>by unfold pkR;rw[h,HOF.out h,hU];rfl)
     clear hU hE HUP HER2 HOF
     have HCC:=Jnv (JcZ bo false false S D p ln false false ob nb cb L z4 (HPI.out.2 (by first|rfl|trivial)) HR4.out (by have:=HBL.out;omega) HO4.out)
     go_wp2_with fail
     refine Jnx HCC.out ?_
     rintro e z5 ⟨sp,dp,fl,⟨rfl,hbx,hbe,hot⟩,hval⟩
     have HX5:=Jnv ((hot b0 HNE.out.2.symm (Jnw HX4.out).1).trans HX4.out)
     have HO5:=Jnv hbx
     have HB5:Hid (Below w.heap.size w z5):=Jnv (HB4.out.trans (hbe.mono HLB.out))
     have hrf:Jl z5 b0 40=true:=by rw[Jd _ _ _ _ _ HX5.out];rfl
     have lo5:bo<z5.heap.size:=(Jnw HO5.out).1
     clear hbx hbe hot HCC HX4 HO4 HB4 HR4 c39 c41
     by_cases h0:(Jw p L).err=0
     ·obtain⟨rfl,rfl,rfl⟩:=hval h0
      have HV2:=Jnv (HV.out (HE2.out.trans h0))
      rw[h0]
      clear HV HE2 h0 hval
      generalize (Jw p L).src=sp at*
      generalize (Jw p L).dst=dp at*
      generalize (Jw p L).flags=fl at*
      have hpt:Jc z5 bo 0 40=(JnJ false false p (.int .u16 sp) (.int .u16 dp) (.int .i64 ln) fl false S D:Array Value):=Qf (a:=(JnJ false false p (.int .u16 sp) (.int .u16 dp) (.int .i64 ln) fl false S D)) (c:=#[.slice ob nb cb,false]) HO5.out rfl
      go_wp2_with fail
      exact Qb (cs:=(JnJ false false p (.int .u16 sp) (.int .u16 dp) (.int .i64 ln) fl false S D)) b0 rfl rfl (Jb (Jh HX5.out) rfl) rfl HV2.out (HB5.out.trans (Jf _ (Nat.le_of_eq HB0.out.symm)))
     ·have HV2:=Jnv (XP (l:=l) HE2.out h0)
      have hne1:((Jw p L).err != 0)=true:=by simpa using h0
      clear HV HE2 h0 hval
      generalize (Jw p L).err=er at*
      go_wp2_with fail
      exact Qb (cs:=JaM) b0 rfl rfl (Jb (Jh HX5.out) rfl) rfl HV2.out (HB5.out.trans (Jf _ (Nat.le_of_eq HB0.out.symm)))
    ·skip
     have lo3:bo<z3.heap.size:=(Jnw HO3.out).1
     have c34:=cell_of_row _ _ 34 _ _ (0,0) HO3.out
     have c39:=cell_of_row _ _ 39 _ _ (0,0) HO3.out
     have c41:=cell_of_row _ _ 41 _ _ (0,0) HO3.out
     clear c39 c41
     go_wp2_with fail
     refine Jnx (HIC.out _) ?_
     rintro e z4 ⟨rfl,hb4⟩
     have HX4:=Jnv ((hb4.block b0 (Jnw HX3.out).1).trans HX3.out)
     have HO4:=Jnv ((hb4.block bo (Jnw HO3.out).1).trans HO3.out)
     have HB4:=Jnv (Jno HB3.out hb4)
     have HR4:=Jnv (HR3.out.below hb4)
     clear hb4 c34 lo3 HX3 HO3 HB3 HR3
     have lo4:bo<z4.heap.size:=(Jnw HO4.out).1
     have c39:=cell_of_row _ _ 39 _ _ (0,0) HO4.out
     have c41:=cell_of_row _ _ 41 _ _ (0,0) HO4.out
     have hU:Ja6 ⟨false,S,D,p,ln,false,true,L⟩=Jy p L:=by rw[HUP.out];rfl
     have hE:Qu l=(Jy p L).err:=by rw[HER2.out,hU]
     have HE2:=Jnv hE
     have HV:Hid (Qu l=0→pkR l=.tuple #[.agg #[.bool false,.int .u8 (S 0),.int .u8 (S 1),.int .u8 (S 2),.int .u8 (S 3),.int .u8 (S 4),.int .u8 (S 5),.int .u8 (S 6),.int .u8 (S 7),.int .u8 (S 8),.int .u8 (S 9),.int .u8 (S 10),.int .u8 (S 11),.int .u8 (S 12),.int .u8 (S 13),.int .u8 (S 14),.int .u8 (S 15),.bool false,.int .u8 (D 0),.int .u8 (D 1),.int .u8 (D 2),.int .u8 (D 3),.int .u8 (D 4),.int .u8 (D 5),.int .u8 (D 6),.int .u8 (D 7),.int .u8 (D 8),.int .u8 (D 9),.int .u8 (D 10),.int .u8 (D 11),.int .u8 (D 12),.int .u8 (D 13),.int .u8 (D 14),.int .u8 (D 15),.int .u8 p,.int .u16 (Jy p L).src,.int .u16 (Jy p L).dst,.int .i64 ln,.int .u8 (Jy p L).flags,.bool false],.int .i64 0]):=Jnv (fun h=>by unfold pkR;rw[h,HOF.out h,hU];rfl)
     clear hU hE HUP HER2 HOF
     have HCC:=Jnv (JcY bo false false S D p ln false true ob nb cb L z4 (HPI.out.2 (by first|rfl|trivial)) HR4.out (by have:=HBL.out;omega) HNE.out.1 HO4.out)
     go_wp2_with fail
     refine Jnx HCC.out ?_
     rintro e z5 ⟨sp,dp,fl,⟨rfl,hbx,hbe,hot⟩,hval⟩
     have HX5:=Jnv ((hot b0 HNE.out.2.symm (Jnw HX4.out).1).trans HX4.out)
     have HO5:=Jnv hbx
     have HB5:Hid (Below w.heap.size w z5):=Jnv (HB4.out.trans (hbe.mono HLB.out))
     have hrf:Jl z5 b0 40=true:=by rw[Jd _ _ _ _ _ HX5.out];rfl
     have lo5:bo<z5.heap.size:=(Jnw HO5.out).1
     clear hbx hbe hot HCC HX4 HO4 HB4 HR4 c39 c41
     by_cases h0:(Jy p L).err=0
     ·obtain⟨rfl,rfl,rfl⟩:=hval h0
      have HV2:=Jnv (HV.out (HE2.out.trans h0))
      rw[h0]
      clear HV HE2 h0 hval
      generalize (Jy p L).src=sp at*
      generalize (Jy p L).dst=dp at*
      generalize (Jy p L).flags=fl at*
      have hpt:Jc z5 bo 0 40=(JnJ false false p (.int .u16 sp) (.int .u16 dp) (.int .i64 ln) fl false S D:Array Value):=Qf (a:=(JnJ false false p (.int .u16 sp) (.int .u16 dp) (.int .i64 ln) fl false S D)) (c:=#[.slice ob nb cb,true]) HO5.out rfl
      go_wp2_with fail
      exact Qb (cs:=(JnJ false false p (.int .u16 sp) (.int .u16 dp) (.int .i64 ln) fl false S D)) b0 rfl rfl (Jb (Jh HX5.out) rfl) rfl HV2.out (HB5.out.trans (Jf _ (Nat.le_of_eq HB0.out.symm)))
     ·have HV2:=Jnv (XP (l:=l) HE2.out h0)
      have hne1:((Jy p L).err != 0)=true:=by simpa using h0
      clear HV HE2 h0 hval
      generalize (Jy p L).err=er at*
      go_wp2_with fail
      exact Qb (cs:=JaM) b0 rfl rfl (Jb (Jh HX5.out) rfl) rfl HV2.out (HB5.out.trans (Jf _ (Nat.le_of_eq HB0.out.symm)))
   ·skip
    have lo3:bo<z3.heap.size:=(Jnw HO3.out).1
    have c34:=cell_of_row _ _ 34 _ _ (0,0) HO3.out
    have c39:=cell_of_row _ _ 39 _ _ (0,0) HO3.out
    have c41:=cell_of_row _ _ 41 _ _ (0,0) HO3.out
    have hU:Ja6 ⟨false,S,D,p,ln,true,mo,L⟩=⟨0,0,0,0⟩:=by rw[HUP.out];rfl
    have hE:Qu l=0:=by rw[HER2.out,hU]
    have HV:Hid (pkR l=.tuple #[.agg #[.bool false,.int .u8 (S 0),.int .u8 (S 1),.int .u8 (S 2),.int .u8 (S 3),.int .u8 (S 4),.int .u8 (S 5),.int .u8 (S 6),.int .u8 (S 7),.int .u8 (S 8),.int .u8 (S 9),.int .u8 (S 10),.int .u8 (S 11),.int .u8 (S 12),.int .u8 (S 13),.int .u8 (S 14),.int .u8 (S 15),.bool false,.int .u8 (D 0),.int .u8 (D 1),.int .u8 (D 2),.int .u8 (D 3),.int .u8 (D 4),.int .u8 (D 5),.int .u8 (D 6),.int .u8 (D 7),.int .u8 (D 8),.int .u8 (D 9),.int .u8 (D 10),.int .u8 (D 11),.int .u8 (D 12),.int .u8 (D 13),.int .u8 (D 14),.int .u8 (D 15),.int .u8 p,.int .u16 0,.int .u16 0,.int .i64 ln,.int .u8 0,.bool true],.int .i64 0]):=Jnv (by unfold pkR;rw[hE,HOF.out hE,hU];rfl)
    clear hU hE HUP HER2 HOF
    clear c39 c41
    go_wp2_with fail
    refine Jnx (HIC.out _) ?_
    rintro e z4 ⟨rfl,hb4⟩
    have HX4:=Jnv ((hb4.block b0 (Jnw HX3.out).1).trans HX3.out)
    have HO4:=Jnv ((hb4.block bo (Jnw HO3.out).1).trans HO3.out)
    have HB4:=Jnv (Jno HB3.out hb4)
    have HR4:=Jnv (HR3.out.below hb4)
    clear hb4 c34 lo3 HX3 HO3 HB3 HR3
    have lo4:bo<z4.heap.size:=(Jnw HO4.out).1
    have c39:=cell_of_row _ _ 39 _ _ (0,0) HO4.out
    have c41:=cell_of_row _ _ 41 _ _ (0,0) HO4.out
    have hpt:Jc z4 bo 0 40=(JnL false false p (.int .i64 ln) true S D:Array Value):=Qf (a:=(JnL false false p (.int .i64 ln) true S D)) (c:=#[.slice ob nb cb,mo]) HO4.out rfl
    have hrf:Jl z4 b0 40=true:=by rw[Jd _ _ _ _ _ HX4.out];rfl
    go_wp2_with fail
    exact Qb (cs:=(JnL false false p (.int .i64 ln) true S D)) b0 rfl rfl (Jb (Jh HX4.out) rfl) rfl HV.out (HB4.out.trans (Jf _ (Nat.le_of_eq HB0.out.symm)))
 ·cases fr
  ·cases mo
   ·skip
    have lo3:bo<z3.heap.size:=(Jnw HO3.out).1
    have c34:=cell_of_row _ _ 34 _ _ (0,0) HO3.out
    have c39:=cell_of_row _ _ 39 _ _ (0,0) HO3.out
    have c41:=cell_of_row _ _ 41 _ _ (0,0) HO3.out
    have hU:Ja6 ⟨false,S,D,p,ln,false,false,L⟩=Jw p L:=by rw[HUP.out];rfl
    have hE:Qu l=(Jw p L).err:=by rw[HER2.out,hU]
    have HE2:=Jnv hE
    have HV:Hid (Qu l=0→pkR l=.tuple #[.agg #[.bool false,.int .u8 (S 0),.int .u8 (S 1),.int .u8 (S 2),.int .u8 (S 3),.int .u8 (S 4),.int .u8 (S 5),.int .u8 (S 6),.int .u8 (S 7),.int .u8 (S 8),.int .u8 (S 9),.int .u8 (S 10),.int .u8 (S 11),.int .u8 (S 12),.int .u8 (S 13),.int .u8 (S 14),.int .u8 (S 15),.bool false,.int .u8 (D 0),.int .u8 (D 1),.int .u8 (D 2),.int .u8 (D 3),.int .u8 (D 4),.int .u8 (D 5),.int .u8 (D 6),.int .u8 (D 7),.int .u8 (D 8),.int .u8 (D 9),.int .u8 (D 10),.int .u8 (D 11),.int .u8 (D 12),.int .u8 (D 13),.int .u8 (D 14),.int .u8 (D 15),.int .u8 p,.int .u16 (Jw p L).src,.int .u16 (Jw p L).dst,.int .i64 ln,.int .u8 (Jw p L).flags,.bool false],.int .i64 0]):=Jnv (fun h=>by unfold pkR;rw[h,HOF.out h,hU];rfl)
    clear hU hE HUP HER2 HOF
    have HCC:=Jnv (JcZ bo false false S D p ln false false ob nb cb L z3 (HPI.out.1 (by first|rfl|trivial)) HR3.out (by have:=HBL.out;omega) HO3.out)
    go_wp2_with fail
    refine Jnx HCC.out ?_
    rintro e z5 ⟨sp,dp,fl,⟨rfl,hbx,hbe,hot⟩,hval⟩
    have HX5:=Jnv ((hot b0 HNE.out.2.symm (Jnw HX3.out).1).trans HX3.out)
    have HO5:=Jnv hbx
    have HB5:Hid (Below w.heap.size w z5):=Jnv (HB3.out.trans (hbe.mono HLB.out))
    have hrf:Jl z5 b0 40=true:=by rw[Jd _ _ _ _ _ HX5.out];rfl
    have lo5:bo<z5.heap.size:=(Jnw HO5.out).1
    clear hbx hbe hot HCC HX3 HO3 HB3 HR3 c39 c41
    by_cases h0:(Jw p L).err=0
    ·obtain⟨rfl,rfl,rfl⟩:=hval h0
     have HV2:=Jnv (HV.out (HE2.out.trans h0))
     rw[h0]
     clear HV HE2 h0 hval
     generalize (Jw p L).src=sp at*
     generalize (Jw p L).dst=dp at*
     generalize (Jw p L).flags=fl at*
     have hpt:Jc z5 bo 0 40=(JnJ false false p (.int .u16 sp) (.int .u16 dp) (.int .i64 ln) fl false S D:Array Value):=Qf (a:=(JnJ false false p (.int .u16 sp) (.int .u16 dp) (.int .i64 ln) fl false S D)) (c:=#[.slice ob nb cb,false]) HO5.out rfl
     go_wp2_with fail
     exact Qb (cs:=(JnJ false false p (.int .u16 sp) (.int .u16 dp) (.int .i64 ln) fl false S D)) b0 rfl rfl (Jb (Jh HX5.out) rfl) rfl HV2.out (HB5.out.trans (Jf _ (Nat.le_of_eq HB0.out.symm)))
    ·have HV2:=Jnv (XP (l:=l) HE2.out h0)
     have hne1:((Jw p L).err != 0)=true:=by simpa using h0
     clear HV HE2 h0 hval
     generalize (Jw p L).err=er at*
     go_wp2_with fail
     exact Qb (cs:=JaM) b0 rfl rfl (Jb (Jh HX5.out) rfl) rfl HV2.out (HB5.out.trans (Jf _ (Nat.le_of_eq HB0.out.symm)))
   ·skip
    have lo3:bo<z3.heap.size:=(Jnw HO3.out).1
    have c34:=cell_of_row _ _ 34 _ _ (0,0) HO3.out
    have c39:=cell_of_row _ _ 39 _ _ (0,0) HO3.out
    have c41:=cell_of_row _ _ 41 _ _ (0,0) HO3.out
    have hU:Ja6 ⟨false,S,D,p,ln,false,true,L⟩=Jy p L:=by rw[HUP.out];rfl
    have hE:Qu l=(Jy p L).err:=by rw[HER2.out,hU]
    have HE2:=Jnv hE
    have HV:Hid (Qu l=0→pkR l=.tuple #[.agg #[.bool false,.int .u8 (S 0),.int .u8 (S 1),.int .u8 (S 2),.int .u8 (S 3),.int .u8 (S 4),.int .u8 (S 5),.int .u8 (S 6),.int .u8 (S 7),.int .u8 (S 8),.int .u8 (S 9),.int .u8 (S 10),.int .u8 (S 11),.int .u8 (S 12),.int .u8 (S 13),.int .u8 (S 14),.int .u8 (S 15),.bool false,.int .u8 (D 0),.int .u8 (D 1),.int .u8 (D 2),.int .u8 (D 3),.int .u8 (D 4),.int .u8 (D 5),.int .u8 (D 6),.int .u8 (D 7),.int .u8 (D 8),.int .u8 (D 9),.int .u8 (D 10),.int .u8 (D 11),.int .u8 (D 12),.int .u8 (D 13),.int .u8 (D 14),.int .u8 (D 15),.int .u8 p,.int .u16 (Jy p L).src,.int .u16 (Jy p L).dst,.int .i64 ln,.int .u8 (Jy p L).flags,.bool false],.int .i64 0]):=Jnv (fun h=>by unfold pkR;rw[h,HOF.out h,hU];rfl)
    clear hU hE HUP HER2 HOF
    have HCC:=Jnv (JcY bo false false S D p ln false true ob nb cb L z3 (HPI.out.1 (by first|rfl|trivial)) HR3.out (by have:=HBL.out;omega) HNE.out.1 HO3.out)
    go_wp2_with fail
    refine Jnx HCC.out ?_
    rintro e z5 ⟨sp,dp,fl,⟨rfl,hbx,hbe,hot⟩,hval⟩
    have HX5:=Jnv ((hot b0 HNE.out.2.symm (Jnw HX3.out).1).trans HX3.out)
    have HO5:=Jnv hbx
    have HB5:Hid (Below w.heap.size w z5):=Jnv (HB3.out.trans (hbe.mono HLB.out))
    have hrf:Jl z5 b0 40=true:=by rw[Jd _ _ _ _ _ HX5.out];rfl
    have lo5:bo<z5.heap.size:=(Jnw HO5.out).1
    clear hbx hbe hot HCC HX3 HO3 HB3 HR3 c39 c41
    by_cases h0:(Jy p L).err=0
    ·obtain⟨rfl,rfl,rfl⟩:=hval h0
     have HV2:=Jnv (HV.out (HE2.out.trans h0))
     rw[h0]
     clear HV HE2 h0 hval
     generalize (Jy p L).src=sp at*
     generalize (Jy p L).dst=dp at*
     generalize (Jy p L).flags=fl at*
     have hpt:Jc z5 bo 0 40=(JnJ false false p (.int .u16 sp) (.int .u16 dp) (.int .i64 ln) fl false S D:Array Value):=Qf (a:=(JnJ false false p (.int .u16 sp) (.int .u16 dp) (.int .i64 ln) fl false S D)) (c:=#[.slice ob nb cb,true]) HO5.out rfl
     go_wp2_with fail
     exact Qb (cs:=(JnJ false false p (.int .u16 sp) (.int .u16 dp) (.int .i64 ln) fl false S D)) b0 rfl rfl (Jb (Jh HX5.out) rfl) rfl HV2.out (HB5.out.trans (Jf _ (Nat.le_of_eq HB0.out.symm)))
    ·have HV2:=Jnv (XP (l:=l) HE2.out h0)
     have hne1:((Jy p L).err != 0)=true:=by simpa using h0
     clear HV HE2 h0 hval
     generalize (Jy p L).err=er at*
     go_wp2_with fail
     exact Qb (cs:=JaM) b0 rfl rfl (Jb (Jh HX5.out) rfl) rfl HV2.out (HB5.out.trans (Jf _ (Nat.le_of_eq HB0.out.symm)))
  ·skip
   have lo3:bo<z3.heap.size:=(Jnw HO3.out).1
   have c34:=cell_of_row _ _ 34 _ _ (0,0) HO3.out
   have c39:=cell_of_row _ _ 39 _ _ (0,0) HO3.out
   have c41:=cell_of_row _ _ 41 _ _ (0,0) HO3.out
   have hU:Ja6 ⟨false,S,D,p,ln,true,mo,L⟩=⟨0,0,0,0⟩:=by rw[HUP.out];rfl
   have hE:Qu l=0:=by rw[HER2.out,hU]
   have HV:Hid (pkR l=.tuple #[.agg #[.bool false,.int .u8 (S 0),.int .u8 (S 1),.int .u8 (S 2),.int .u8 (S 3),.int .u8 (S 4),.int .u8 (S 5),.int .u8 (S 6),.int .u8 (S 7),.int .u8 (S 8),.int .u8 (S 9),.int .u8 (S 10),.int .u8 (S 11),.int .u8 (S 12),.int .u8 (S 13),.int .u8 (S 14),.int .u8 (S 15),.bool false,.int .u8 (D 0),.int .u8 (D 1),.int .u8 (D 2),.int .u8 (D 3),.int .u8 (D 4),.int .u8 (D 5),.int .u8 (D 6),.int .u8 (D 7),.int .u8 (D 8),.int .u8 (D 9),.int .u8 (D 10),.int .u8 (D 11),.int .u8 (D 12),.int .u8 (D 13),.int .u8 (D 14),.int .u8 (D 15),.int .u8 p,.int .u16 0,.int .u16 0,.int .i64 ln,.int .u8 0,.bool true],.int .i64 0]):=Jnv (by unfold pkR;rw[hE,HOF.out hE,hU];rfl)
   clear hU hE HUP HER2 HOF
   have hpt:Jc z3 bo 0 40=(JnL false false p (.int .i64 ln) true S D:Array Value):=Qf (a:=(JnL false false p (.int .i64 ln) true S D)) (c:=#[.slice ob nb cb,mo]) HO3.out rfl
   have hrf:Jl z3 b0 40=true:=by rw[Jd _ _ _ _ _ HX3.out];rfl
   go_wp2_with fail
   exact Qb (cs:=(JnL false false p (.int .i64 ln) true S D)) b0 rfl rfl (Jb (Jh HX3.out) rfl) rfl HV.out (HB3.out.trans (Jf _ (Nat.le_of_eq HB0.out.symm)))
end
end Go.Proofs.YtkgjbipfhhjlpaaGreatDoor
