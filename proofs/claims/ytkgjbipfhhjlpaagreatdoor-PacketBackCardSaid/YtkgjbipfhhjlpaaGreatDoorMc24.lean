import Derived.Test.YtkgjbipfhhjlpaaGreatDoorMc23
set_option linter.unusedVariables false
set_option linter.unusedSimpArgs false
set_option maxRecDepth 100000
set_option maxHeartbeats 32000000
namespace Go.Proofs.YtkgjbipfhhjlpaaGreatDoor
section
open Go.RowKit Bits
theorem Jln {R:Ending→World→Prop}{w':World}{tmps cs:Array Value}{u:Value}(b:Nat)(hp:tmps.getD 2 undef=.pointer (some ⟨b,0,none⟩))(h3:tmps.getD 3 undef=u)(hc:Jb w' b 0 42=cs)(hs:cs.size=42)(hR:R (.returned (.tuple #[.agg cs,u])) w'):
 bodyPost Tryz.prog Tryz.f80 R .ret { tmps:=tmps,defers:=[] } w':=
 bodyPost_ret (v:=.tuple #[.agg cs,u]) (QL rfl _ _ b 42 _ _ Tryz.underlying85 rfl JiR hp h3 cs hc hs) rfl hR
theorem Jmo (oa:Option Addr)(n cap:Nat)(l:List Int)(w:World)(hr:Jg w oa n cap l)(hn:n≤100000):
 Calls Tryz.prog 80 #[.slice oa n cap] w (Jcr w (QW l) (JO l)):=by
 have hlen:=hr.len
 have hx:=heap_alloc_new w (.cells JcX 85)
 have hB:Below w.heap.size w (w.alloc (.cells JcX 85)):=Below.all (JoO _ _) _
 have HR:=JoL (hr.alloc (.cells JcX 85))
 have HBY:=JoL hr.byte
 unfold JcX at hx hB HR
 clear hr
 go_enter Tryz.func80,Tryz.ntmps80
 go_wp2_with fail
 obtain⟨b0,hb0⟩:∃b,b=w.heap.size:=⟨_,rfl⟩
 rw[←hb0] at hx⊢
 have HB0:=JoL hb0
 clear hb0
 generalize w.alloc (.cells (Jpg false false (.int .i64 0) false false) 85)=wa at*
 refine JoN (JcU _ _ _ _ _ HR.out hn) ?_
 rintro e w1 (⟨h0,rfl,hb⟩|⟨h0,oe,ce,es,ob,cb,rfl,hes,ho,hb,hck,hbh,hp0,hp1⟩)
 ·have HB1:=JoL (JoE hB hb)
  have HX1:=JoL ((hb.block b0 (JoM hx).1).trans hx)
  have hb1:b0<w1.heap.size:=(JoM HX1.out).1
  have hb1':b0<w1.heap.size+1:=by omega
  have hrf:Jk w1 b0 42=true:=by rw[Jd _ _ _ _ _ HX1.out];rfl
  have HE:=JoL h0
  have hne:(JO l != 0)=true:=by simpa using h0
  clear hb hx hB HR h0
  generalize JO l=er at*
  unfold sxZ sxF
  go_wp2_with fail
  refine Jln (cs:=JcX) (u:=.int .i64 er) b0 rfl rfl ?_ rfl (.inl ⟨HE.out,rfl,?_⟩)
  ·exact Ja ((heap_alloc_old _ _ (by simpa using hb1')).trans ((heap_alloc_old _ _ (by simpa using hb1)).trans (Ji HX1.out))) rfl
  ·exact Below.all (Below.all (HB1.out.trans (Je _ (Nat.le_of_eq HB0.out.symm))) _) _
 have HES:=JoL hes
 have HO:=JoL (ho.mono hB.size)
 have HNB:Hid (∀a,ob=some a→a.block≠b0):=JoL (fun a ha=>by have:=(ho.lt ha).1;have h2:=(JoM hx).1;omega)
 have HB1:=JoL (JoE hB hb)
 have HX1:=JoL ((hb.block b0 (JoM hx).1).trans hx)
 have HCK:=JoL hck
 have HBH:=JoL hbh
 have H00:=JoL h0
 have HDL:Hid (∀x∈XP l,x.2.length≤100000):=JoL (fun x hx=>by
  have:=hck.right x hx
  unfold Qi at this
  split at this<;>simp only[Bool.and_eq_true,decide_eq_true_eq] at this<;>omega)
 have HFR:Hid (∀w' oe es lo,J0 w' lo oe ce (XP l) es→Calls Tryz.prog 141 #[.agg #[.slice oe (XP l).length ce,.int .u8 (XU l)]] w' (Ji3 w' (XP l))):=JoL (fun w' oe es lo h=>Jml lo oe ce _ es _ w' h HCK.out HDL.out HBH.out)
 have HOUT:Hid (QW l=⟨true,JX ((l.drop 8).take 16),JX ((l.drop 24).take 16),XU l,40+w2 l 4,decide (0<JaD (XP l)),Zz (XP l),XV l⟩):=JoL rfl
 have hl40:40≤l.length:=by
  have h1:Z8 l=0:=by
   unfold JO at h0
   by_cases h:Z8 l=0
   ·exact h
   ·rw[if_pos h] at h0;exact h0
  unfold Z8 at h1
  by_cases h:l.length<40
  ·rw[if_pos h] at h1;cases h1
  ·omega
 have HS:Hid (((l.drop 8).take 16).length=16∧Jp ((l.drop 8).take 16)):=JoL ⟨by rw[List.length_take,List.length_drop];omega,Qn (Qe HBY.out _) _⟩
 have HD:Hid (((l.drop 24).take 16).length=16∧Jp ((l.drop 24).take 16)):=JoL ⟨by rw[List.length_take,List.length_drop];omega,Qn (Qe HBY.out _) _⟩
 have HSJ:Hid (∀j,j<16→((l.drop 8).take 16).getD j 0=atB l 8 j):=JoL (fun j hj=>Xo l 8 16 j hj)
 have HDJ:Hid (∀j,j<16→((l.drop 24).take 16).getD j 0=atB l 24 j):=JoL (fun j hj=>Xo l 24 16 j hj)
 have hpw:=Zi HBY.out 4
 clear hck hbh hes ho hb hx hB HR h0 hl40 HDL
 unfold sxA sxF
 generalize (l.drop 8).take 16=SL at*
 generalize (l.drop 24).take 16=DL at*
 generalize atB l 8=SB at*
 generalize atB l 24=DB at*
 generalize w2 l 4=tot at*
 generalize w4 l 0/1048576%256=x0 at*
 generalize w4 l 0%1048576=x1 at*
 generalize l.getD 6 0=x6 at*
 generalize l.getD 7 0=x7 at*
 generalize XU l=pr at*
 obtain⟨xs,hxs⟩:∃xs,XP l=xs:=⟨_,rfl⟩
 rw[hxs] at HES HFR HOUT HCK⊢
 clear hxs
 obtain⟨kk,hkk⟩:∃k,xs.length=k:=⟨_,rfl⟩
 have HKK:=JoL hkk
 rw[hkk] at HFR⊢
 clear hkk
 generalize XV l=L at*
 go_wp2_with fail
 obtain⟨bh,hbh⟩:∃b,b=w1.heap.size:=⟨_,rfl⟩
 have hxa:=heap_alloc_new w1 (.cells (Jo2 x0 (.int .u32 x1) (.int .u16 tot) x6 x7 SB DB) 118)
 have hba:=Below.all (JoO w1.heap.size w1) (.cells (Jo2 x0 (.int .u32 x1) (.int .u16 tot) x6 x7 SB DB) 118)
 obtain⟨wb,hwb⟩:∃x,w1.alloc (.cells (Jo2 x0 (.int .u32 x1) (.int .u16 tot) x6 x7 SB DB) 118)=x:=⟨_,rfl⟩
 have hsb:wb.heap.size=bh+1:=by rw[←hwb,hbh];simp
 rw[hwb] at hxa hba⊢
 have hxc:=heap_alloc_new wb (.cells #[.slice oe kk ce,pr] 96)
 have hbc:=Below.all (JoO wb.heap.size wb) (.cells #[.slice oe kk ce,pr] 96)
 obtain⟨w3,hw3⟩:∃x,wb.alloc (.cells #[.slice oe kk ce,pr] 96)=x:=⟨_,rfl⟩
 rw[hw3,hsb] at hxc
 rw[hw3] at hbc⊢
 rw[←hbh] at hxa⊢
 have hb3:=JoE hba hbc
 have HZ3:=JoL ((hb3.block b0 (JoM HX1.out).1).trans HX1.out)
 have HX3:=JoL ((hbc.block bh (by omega)).trans hxa)
 have HC3:=JoL hxc
 have HB3:=JoL (JoE HB1.out hb3)
 have HO3:=JoL (JQ.below HO.out hb3)
 have HES3:=JoL (HES.out.below hb3)
 clear hxa hba hwb hxc hbc hw3 hb3 hsb hbh HB1 HO HES HX1
 refine JoN (Jdh _ 16 16 SL w3 (XJ HX3.out 5 16 SL HS.out.1 HS.out.2 (by decide) (fun j hj=>by rw[HSJ.out j hj];rcases j with _|_|_|_|_|_|_|_|_|_|_|_|_|_|_|_|j;rfl;rfl;rfl;rfl;rfl;rfl;rfl;rfl;rfl;rfl;rfl;rfl;rfl;rfl;rfl;rfl;omega)) (by decide)) ?_
 rintro e w4 ⟨rfl,hb4⟩
 rw[Jfs HS.out.1]
 unfold adV
 generalize JX SL=S at*
 have HZ4:=JoL ((hb4.block b0 (JoM HZ3.out).1).trans HZ3.out)
 have HX4:=JoL ((hb4.block bh (JoM HX3.out).1).trans HX3.out)
 have HC4:=JoL ((hb4.block (bh+1) (JoM HC3.out).1).trans HC3.out)
 have HB4:=JoL (JoE HB3.out hb4)
 have HO4:=JoL (JQ.below HO3.out hb4)
 have HES4:=JoL (HES3.out.below hb4)
 clear hb4
 clear HZ3 HX3 HC3 HB3 HO3 HES3
 go_wp2_with fail
 obtain⟨bs,hbs⟩:∃b,b=w4.heap.size:=⟨_,rfl⟩
 have hx5:=heap_alloc_new w4 (.cells (JoX true S) 27)
 have hb5:Below w4.heap.size w4 (w4.alloc (.cells (JoX true S) 27)):=Below.all (JoO _ _) _
 rw[←hbs] at hx5⊢
 generalize w4.alloc (.cells (JoX true S) 27)=w5 at*
 have HZ5:=JoL ((hb5.block b0 (JoM HZ4.out).1).trans HZ4.out)
 have HX5:=JoL ((hb5.block bh (JoM HX4.out).1).trans HX4.out)
 have HC5:=JoL ((hb5.block (bh+1) (JoM HC4.out).1).trans HC4.out)
 have HB5:=JoL (JoE HB4.out hb5)
 have HO5:=JoL (JQ.below HO4.out hb5)
 have HES5:=JoL (HES4.out.below hb5)
 have HS5:=JoL hx5
 clear hb5 hx5 hbs
 clear HZ4 HX4 HC4 HB4 HO4 HES4
 refine JoN (Jdh _ 16 16 DL w5 (XJ HX5.out 21 16 DL HD.out.1 HD.out.2 (by decide) (fun j hj=>by rw[HDJ.out j hj];rcases j with _|_|_|_|_|_|_|_|_|_|_|_|_|_|_|_|j;rfl;rfl;rfl;rfl;rfl;rfl;rfl;rfl;rfl;rfl;rfl;rfl;rfl;rfl;rfl;rfl;omega)) (by decide)) ?_
 rintro e w6 ⟨rfl,hb6⟩
 rw[Jfs HD.out.1]
 unfold adV
 generalize JX DL=D at*
 have HZ6:=JoL ((hb6.block b0 (JoM HZ5.out).1).trans HZ5.out)
 have HX6:=JoL ((hb6.block bh (JoM HX5.out).1).trans HX5.out)
 have HC6:=JoL ((hb6.block (bh+1) (JoM HC5.out).1).trans HC5.out)
 have HS6:=JoL ((hb6.block bs (JoM HS5.out).1).trans HS5.out)
 have HB6:=JoL (JoE HB5.out hb6)
 have HO6:=JoL (JQ.below HO5.out hb6)
 have HES6:=JoL (HES5.out.below hb6)
 clear hb6
 clear HZ5 HX5 HC5 HS5 HB5 HO5 HES5
 have lc:bh+1<w6.heap.size:=(JoM HC6.out).1
 have hpc:Jb w6 (bh+1) 0 2=#[.slice oe kk ce,.int .u8 pr]:=Ja HC6.out rfl
 go_wp2_with fail
 obtain⟨bd,hbd⟩:∃b,b=w6.heap.size:=⟨_,rfl⟩
 have hx7:=heap_alloc_new w6 (.cells (JoX true D) 27)
 have hb7:Below w6.heap.size w6 (w6.alloc (.cells (JoX true D) 27)):=Below.all (JoO _ _) _
 rw[←hbd] at hx7⊢
 generalize w6.alloc (.cells (JoX true D) 27)=w7 at*
 have HZ7:=JoL ((hb7.block b0 (JoM HZ6.out).1).trans HZ6.out)
 have HX7:=JoL ((hb7.block bh (JoM HX6.out).1).trans HX6.out)
 have HC7:=JoL ((hb7.block (bh+1) (JoM HC6.out).1).trans HC6.out)
 have HS7:=JoL ((hb7.block bs (JoM HS6.out).1).trans HS6.out)
 have HB7:=JoL (JoE HB6.out hb7)
 have HO7:=JoL (JQ.below HO6.out hb7)
 have HES7:=JoL (HES6.out.below hb7)
 have HD7:=JoL hx7
 clear hb7 hx7 hbd lc hpc
 clear HZ6 HX6 HC6 HS6 HB6 HO6 HES6
 refine JoN (HFR.out _ _ _ _ HES7.out) ?_
 rintro e w8 ⟨⟨id,ok,rfl⟩,hb8⟩
 generalize JaD xs=fo at*
 generalize Zz xs=fm at*
 have HZ8:=JoL ((hb8.block b0 (JoM HZ7.out).1).trans HZ7.out)
 have HX8:=JoL ((hb8.block bh (JoM HX7.out).1).trans HX7.out)
 have HC8:=JoL ((hb8.block (bh+1) (JoM HC7.out).1).trans HC7.out)
 have HS8:=JoL ((hb8.block bs (JoM HS7.out).1).trans HS7.out)
 have HD8:=JoL ((hb8.block bd (JoM HD7.out).1).trans HD7.out)
 have HB8:=JoL (JoE HB7.out hb8)
 have HO8:=JoL (JQ.below HO7.out hb8)
 have HES8:=JoL (HES7.out.below hb8)
 clear hb8
 clear HZ7 HX7 HC7 HS7 HD7 HB7 HO7 HES7
 have lz:b0<w8.heap.size:=(JoM HZ8.out).1
 have lh:bh<w8.heap.size:=(JoM HX8.out).1
 have lc:bh+1<w8.heap.size:=(JoM HC8.out).1
 have ls:bs<w8.heap.size:=(JoM HS8.out).1
 have ld:bd<w8.heap.size:=(JoM HD8.out).1
 have hrf:Jk w8 b0 42=true:=by rw[Jd _ _ _ _ _ HZ8.out];rfl
 have hps:Jb w8 bs 0 17=(JoX true S:Array Value):=Ja HS8.out rfl
 have hpd:Jb w8 bd 0 17=(JoX true D:Array Value):=Ja HD8.out rfl
 have c1:=cell_of_row _ _ 1 _ _ (0,0) HC8.out
 have c2:=cell_of_row _ _ 2 _ _ (0,0) HX8.out
 have ht0:=hpw.1
 have ht1:=hpw.2
 go_wp2_with fail
 refine Jln (cs:=(Jpf true true pr (.int .i64 (40+tot)) (.bool (decide (0<fo))) (.slice ob L.length cb) fm S D)) (u:=.int .i64 0) b0 rfl rfl ?_ rfl ?_
 ·exact Ja ((heap_alloc_old _ _ (by simpa using lz)).trans (Ji HZ8.out)) rfl
 ·show Jcr w (QW l) (JO l) _ _
  rw[HOUT.out,H00.out]
  exact .inr ⟨rfl,ob,cb,rfl,JQ.below (JQ.keep HO8.out (by simp) (fun a ha=>setRow_other _ _ _ _ (by have:=(HNB.out a ha);omega))) (Below.all (JoO _ _) _),Below.all (HB8.out.trans (Je _ (Nat.le_of_eq HB0.out.symm))) _⟩
def JmL (w:World)(b:Nat)(u:Jh8)(s6 d6:Bool)(S D:Nat→Int)(p ln:Int)(fr mo:Bool)(oa:Option Addr)(n cap:Nat):Ending→World→Prop:=fun e w'=>∃(sp dp fl:Int),JbP w b (Jo1 s6 d6 p (.int .u16 sp) (.int .u16 dp) (.int .i64 ln) fl fr (.slice oa n cap) mo S D) u.err e w'∧(u.err=0→sp=u.src∧dp=u.dst∧fl=u.flags)
theorem Jiy (oa:Option Addr)(n cap:Nat)(l:List Int)(i:Nat)(w:World)(hr:Jg w oa n cap l)(hi:i+2≤n)(hn:n≤100000)(iv:Int)(hiv:iv=(i:Int)):Calls Tryz.prog 81 #[.slice oa n cap,.int .i64 iv,.int .i64 2] w (Jj w (.tuple #[.int .u64 (w2 l i),.int .i64 0])):=by
 subst hiv
 have hl:=hr.len
 have:=get_ok oa n cap l i 2 w hr (by decide) (by decide) (by omega) (by omega)
 rwa [QQ l i (by omega)] at this
theorem Jlo (oa:Option Addr)(n cap:Nat)(l:List Int)(i:Nat)(w:World)(hr:Jg w oa n cap l)(hi:n<i+2)(hi2:i≤10)(hn:n≤100000)(iv:Int)(hiv:iv=(i:Int)):Calls Tryz.prog 81 #[.slice oa n cap,.int .i64 iv,.int .i64 2] w (Jj w (.tuple #[.int .u64 0,.int .i64 10])):=by
 subst hiv
 exact get_short oa n cap i 2 w (by decide) (by decide) (by omega) (by omega) (by omega)
theorem Jdu (b:Nat)(s6 d6:Bool)(S D:Nat→Int)(p ln:Int)(fr mo:Bool)(oa:Option Addr)(n cap:Nat)(l:List Int)(w:World)(hp:p=6∨p=17∨p=1∨p=58)(hr:Jg w oa n cap l)(hn:n≤100000)(hob:∀a,oa=some a→a.block≠b)
 (hx:w.heap[b]? =some (.cells (Jpf s6 d6 p (.int .i64 ln) fr (.slice oa n cap) mo S D) 85 (0,0))):
 Calls Tryz.prog 37 #[.pointer (some ⟨b,0,none⟩)] w (JmL w b (JI p l) s6 d6 S D p ln fr mo oa n cap):=by
 have hl:=hr.len
 by_cases hi:JY p=true
 ·have hu:JI p l=if l.length<2 then ⟨10,0,0,0⟩ else ⟨0,0,w2 l 0,0⟩:=by unfold JI;rw[if_pos hi]
  by_cases h2:n<2
  ·refine(Jhx b s6 d6 S D p 0 0 ln 0 fr mo oa n cap w 0 10 hi (by decide) hx (fun x=>Jlo oa n cap l 0 x.world (hr.later x) (by omega) (by omega) hn 0 rfl)).mono (fun e w' h=>⟨0,0,0,?_,?_⟩)
   ·rw[hu,if_pos (by omega)];exact h
   ·rw[hu,if_pos (by omega)];intro h;exact absurd h (by decide)
  ·refine(Jhx b s6 d6 S D p 0 0 ln 0 fr mo oa n cap w (w2 l 0) 0 hi (Zi hr.byte 0) hx (fun x=>Jiy oa n cap l 0 x.world (hr.later x) (by omega) hn 0 rfl)).mono (fun e w' h=>⟨0,w2 l 0,0,?_,?_⟩)
   ·rw[hu,if_neg (by omega)];exact h
   ·rw[hu,if_neg (by omega)];exact fun _=>⟨rfl,rfl,rfl⟩
 have hi':JY p=false:=by simpa using hi
 have hu:JI p l=if l.length<4 then ⟨10,0,0,0⟩ else ⟨0,w2 l 0,w2 l 2,if p=6∧14≤l.length then l.getD 13 0 else 0⟩:=by unfold JI;rw[if_neg hi]
 obtain⟨v,e0,hv,hg⟩:∃v e0,(0≤v∧v<65536∧(2≤n→v=w2 l 0))∧∀x:JG w,Calls Tryz.prog 81 #[.slice oa n cap,.int .i64 0,.int .i64 2] x.world (Jj x.world (.tuple #[.int .u64 v,.int .i64 e0])):=by
  by_cases h2:n<2
  ·exact⟨0,10,⟨by decide,by decide,fun h=>by omega⟩,fun x=>Jlo oa n cap l 0 x.world (hr.later x) (by omega) (by omega) hn 0 rfl⟩
  ·exact⟨w2 l 0,0,⟨(Zi hr.byte 0).1,(Zi hr.byte 0).2,fun _=>rfl⟩,fun x=>Jiy oa n cap l 0 x.world (hr.later x) (by omega) hn 0 rfl⟩
 obtain⟨u,e1,hu1,hg2⟩:∃u e1,(0≤u∧u<65536∧(e1=0→4≤n∧u=w2 l 2)∧(n<4→e1=10)∧(4≤n→e1=0))∧∀x:JG w,Calls Tryz.prog 81 #[.slice oa n cap,.int .i64 2,.int .i64 2] x.world (Jj x.world (.tuple #[.int .u64 u,.int .i64 e1])):=by
  by_cases h2:n<4
  ·exact⟨0,10,⟨by decide,by decide,fun h=>by omega,fun _=>rfl,fun h=>by omega⟩,fun x=>Jlo oa n cap l 2 x.world (hr.later x) (by omega) (by omega) hn 2 rfl⟩
  ·exact⟨w2 l 2,0,⟨(Zi hr.byte 2).1,(Zi hr.byte 2).2,fun _=>⟨by omega,rfl⟩,fun h=>by omega,fun _=>rfl⟩,fun x=>Jiy oa n cap l 2 x.world (hr.later x) (by omega) hn 2 rfl⟩
 have herr:(JI p l).err=e1:=by
  rw[hu]
  by_cases h2:n<4
  ·rw[if_pos (by omega),hu1.2.2.2.1 h2]
  ·rw[if_neg (by omega),hu1.2.2.2.2 (by omega)]
 have hval:∀fl,(4≤n→fl=if p=6∧14≤l.length then l.getD 13 0 else 0)→((JI p l).err=0→v=(JI p l).src∧u=(JI p l).dst∧fl=(JI p l).flags):=by
  intro fl hfl h0
  rw[herr] at h0
  obtain⟨h4,hue⟩:=hu1.2.2.1 h0
  rw[hu,if_neg (by omega)]
  exact⟨hv.2.2 (by omega),hue,hfl h4⟩
 by_cases h6:p=6
 ·subst h6
  by_cases h14:n<14
  ·refine(JeP b s6 d6 S D 0 0 ln 0 fr mo oa n cap w v e0 u e1 h14 ⟨hu1.1,hu1.2.1⟩ ⟨hv.1,hv.2.1⟩ hx hg hg2).mono (fun e w' h=>⟨v,u,0,?_,hval 0 (fun _=>by rw[if_neg (by omega)])⟩)
   rw[herr];exact h
  ·obtain⟨g,off,rfl,hgl,hc⟩:=hr.here (by omega)
   refine(Jgg b s6 d6 S D 0 0 ln 0 fr mo g off n cap w v e0 u e1 (by omega) (l.getD 13 0) (hc 13 (by omega)) (hob _ rfl) hgl ⟨hu1.1,hu1.2.1⟩ ⟨hv.1,hv.2.1⟩ hx hg hg2).mono (fun e w' h=>⟨v,u,l.getD 13 0,?_,hval _ (fun _=>by rw[if_pos ⟨rfl,by omega⟩])⟩)
   rw[herr];exact h
 ·refine(Jmn b s6 d6 S D p 0 0 ln 0 fr mo oa n cap w v e0 u e1 hi' h6 ⟨hu1.1,hu1.2.1⟩ ⟨hv.1,hv.2.1⟩ hx hg hg2).mono (fun e w' h=>⟨v,u,0,?_,hval 0 (fun _=>by rw[if_neg (fun h=>h6 h.1)])⟩)
  rw[herr];exact h
theorem Jdv (b:Nat)(s6 d6:Bool)(S D:Nat→Int)(p ln:Int)(fr mo:Bool)(oa:Option Addr)(n cap:Nat)(l:List Int)(w:World)(hp:p=6∨p=17∨p=1∨p=58)(hr:Jg w oa n cap l)(hn:n≤100000)
 (hx:w.heap[b]? =some (.cells (Jpf s6 d6 p (.int .i64 ln) fr (.slice oa n cap) mo S D) 85 (0,0))):
 Calls Tryz.prog 38 #[.pointer (some ⟨b,0,none⟩)] w (JmL w b (Ju p l) s6 d6 S D p ln fr mo oa n cap):=
 (Jj2 b s6 d6 S D p 0 0 ln 0 fr mo oa n cap l w hp hr hn hx).mono (fun e w' h=>⟨_,_,_,h,fun _=>⟨rfl,rfl,rfl⟩⟩)
def Ja5:Array Value:=(Jpc false false (.int .i64 0) false)
theorem Jlp:JaO pkZ=Ja5:=rfl
theorem Qg {w w':World}{l:List Int}{tmps cs:Array Value}{err:Int}(b:Nat)(hp:tmps.getD 2 undef=.pointer (some ⟨b,0,none⟩))(h3:tmps.getD 3 undef=.int .i64 err)(hc:Jb w' b 0 40=cs)(hs:cs.size=40)(hv:pkR l=.tuple #[.agg cs,.int .i64 err])(hb:Below w.heap.size w w'):
 bodyPost Tryz.prog Tryz.f11 (Jj w (pkR l)) .ret { tmps:=tmps,defers:=[] } w':=
 bodyPost_ret (v:=.tuple #[.agg cs,.int .i64 err]) (QL rfl _ _ b 40 _ _ Tryz.underlying32 rfl Jl0 hp h3 cs hc hs) rfl (.mk hv.symm hb)
theorem X0 {l:List Int}{err:Int}(h:Qq l=err)(h0:err≠0):pkR l=.tuple #[.agg Ja5,.int .i64 err]:=by
 unfold pkR Jkd;rw[h,if_pos h0,Jlp]
def Jj4 (y:World)(r:Nat)(fl:Option Nat)(w:World):Prop:=Below y.heap.size y w∧y.heap.size≤r∧w.heap[r]? =some (.map X9 2)∧∀b,fl=some b→y.heap.size≤b∧w.heap[b]? =some (.cells #[.nilFunc] 79 (0,0))
theorem Qk {w:World}{b:Nat}{a c:Array Value}{t:TypeId}(h:w.heap[b]? =some (.cells (a++c) t (0,0)))(hs:a.size=40):Jb w b 0 40=a:=by
 rw[Jl _ _ _ _ _ _ _ h,show(0+40:Nat)=a.size by rw[hs],Array.extract_append]
 simp
theorem Jhy (oa:Option Addr)(n cap:Nat)(l:List Int)(w:World)(hr:Jg w oa n cap l)(hn:2048<n):
 Calls Tryz.prog 11 #[.slice oa n cap] w (Jj w (pkR l)):=by
 have hlen:=hr.len
 have hx:=heap_alloc_new w (.cells Ja5 32)
 have hB:Below w.heap.size w (w.alloc (.cells Ja5 32)):=Below.all (JoO _ _) _
 have HR:=JoL (hr.alloc (.cells Ja5 32))
 have HBY:=JoL hr.byte
 unfold Ja5 at hx hB HR
 clear hr
 have hd:decide ((n:Int)>2048)=true:=by simp;omega
 have HE:=JoL (X0 (l:=l) (err:=3) (by unfold Qq;rw[if_pos (by omega)]) (by decide))
 obtain⟨b0,hb0⟩:∃b,b=w.heap.size:=⟨_,rfl⟩
 have hrf:Jk (w.alloc (.cells (Jpc false false (.int .i64 0) false) 32)) w.heap.size 40=true:=by rw[Jd _ _ _ _ _ hx];rfl
 have HX:=JoL hx
 have HB:=JoL hB
 clear hx hB
 go_enter Tryz.func11,Tryz.ntmps11
 go_wp2_with fail
 exact Qg (cs:=Ja5) w.heap.size rfl rfl (Ja HX.out rfl) rfl HE.out HB.out
theorem Jiz (oa:Option Addr)(n cap:Nat)(l:List Int)(w:World)(hr:Jg w oa n cap l)(hn:n=0):
 Calls Tryz.prog 11 #[.slice oa n cap] w (Jj w (pkR l)):=by
 have hlen:=hr.len
 have hx:=heap_alloc_new w (.cells Ja5 32)
 have hB:Below w.heap.size w (w.alloc (.cells Ja5 32)):=Below.all (JoO _ _) _
 have HR:=JoL (hr.alloc (.cells Ja5 32))
 have HBY:=JoL hr.byte
 unfold Ja5 at hx hB HR
 clear hr
 have hd:decide ((n:Int)>2048)=false:=by simp;omega
 have hd2:((n:Int)==0)=true:=by simp;omega
 have HE:=JoL (X0 (l:=l) (err:=10) (by unfold Qq;rw[if_neg (by omega),if_pos (by omega)]) (by decide))
 obtain⟨b0,hb0⟩:∃b,b=w.heap.size:=⟨_,rfl⟩
 have hrf:Jk (w.alloc (.cells (Jpc false false (.int .i64 0) false) 32)) w.heap.size 40=true:=by rw[Jd _ _ _ _ _ hx];rfl
 have HX:=JoL hx
 have HB:=JoL hB
 clear hx hB
 go_enter Tryz.func11,Tryz.ntmps11
 go_wp2_with fail
 exact Qg (cs:=Ja5) w.heap.size rfl rfl (Ja HX.out rfl) rfl HE.out HB.out
theorem Jdf (oa:Option Addr)(n cap:Nat)(l:List Int)(w:World)(hr:Jg w oa n cap l)(hn1:0<n)(hn2:n≤2048)(hk:¬l.getD 0 0/16=4∧¬l.getD 0 0/16=6):
 Calls Tryz.prog 11 #[.slice oa n cap] w (Jj w (pkR l)):=by
 obtain⟨g,off,rfl,hgl,hcs⟩:=hr.here hn1
 have hc0:=hcs 0 hn1
 have hx0:=Qt hr.byte 0
 rw[Nat.add_zero] at hc0
 obtain⟨x0,e0⟩:∃x:Nat,l.getD 0 0=(x:Int):=⟨(l.getD 0 0).toNat,by omega⟩
 have HE0:=JoL e0
 rw[e0] at hc0 hx0 hk
 have hd:decide ((n:Int)>2048)=false:=by simp;omega
 have hd2:((n:Int)==0)=false:=by simp;omega
 have hn0:(0:Int)<(n:Int):=by omega
 have hlen:=hr.len
 have hx:=heap_alloc_new w (.cells Ja5 32)
 have hB:Below w.heap.size w (w.alloc (.cells Ja5 32)):=Below.all (JoO _ _) _
 have HR:=JoL (hr.alloc (.cells Ja5 32))
 have HBY:=JoL hr.byte
 unfold Ja5 at hx hB HR
 clear hr
 have hcy:=(Jf hB hgl (⟨g,off,none⟩:Addr) rfl).trans hc0
 have hgy:g<(w.alloc (.cells (Jpc false false (.int .i64 0) false) 32)).heap.size:=JoP hgl hB.size
 have HLK:Hid (∀r w',w'.heap[r]? =some (.map X9 2)→(Instr.lookup 81 (.map (some r)) (.int .u8 ((x0:Int)/16)) true).run Tryz.prog w'=.ok (.tuple #[.agg #[.nilFunc],false]) w'):=JoL (fun r w' h=>Jef _ hk.1 hk.2 r w' h)
 clear hcs e0 hc0
 go_enter Tryz.func11,Tryz.ntmps11
 go_wp2_with fail
 obtain⟨b0,hb0⟩:∃b,b=w.heap.size:=⟨_,rfl⟩
 rw[←hb0] at hx⊢
 have HB0:=JoL hb0
 clear hb0
 generalize w.alloc (.cells (Jpc false false (.int .i64 0) false) 32)=y at*
 have hb0y:b0<y.heap.size:=(JoM hx).1
 have HX:=JoL hx
 have HB:=JoL hB
 clear hx hB
 refine JM [.w,.h,.h,.h,.h] [(1,1,0),(2,1,0),(3,1,0),(4,1,0)] (fun _ w'=>w'.cell? ⟨g,off,none⟩=some (.int .u8 (x0:Int))) [1] [(.w,0),(.w,5),(.q,6),(.q,7),(.q,8)] [(.w,10),(.q,11)] 9 (.cells #[.nilFunc] 79) (by kernel_rfl) (by kernel_rfl) rfl rfl ⟨fun _=>rfl,fun _ _=>by kernel_rfl⟩ (by kernel_rfl) (by kernel_rfl) ?_
 apply Exists.intro
 refine⟨fun wx hbx=>?_,?_,?_⟩
 ·have hcx:wx.cell? ⟨g,off,none⟩=some (.int .u8 (x0:Int)):=(Jf hbx hgy _ rfl).trans hcy
  have hbx2:g<wx.heap.size:=JoP hgy hbx.size
  simp only[Jx]
  repeat go_big_quiet_step (fail)
  exact wpQuiet_nil rfl
 ·intro q hq oi hoi
  simp only[List.mem_cons,List.not_mem_nil,or_false] at hq
  rcases hq with rfl|rfl|rfl|rfl
  ·cases hoi;exact⟨_,rfl,rfl,fun w2 hw=>by kernel_rfl⟩
  ·cases hoi;exact⟨_,rfl,rfl,fun w2 hw=>by simp[execOp,go_sem,hn0];intro h;exfalso;omega⟩
  ·cases hoi;exact⟨_,rfl,rfl,fun w2 hw=>by simp[execOp,go_sem,hw]⟩
  ·cases hoi;exact⟨_,rfl,rfl,fun w2 hw=>by simp[execOp,go_sem,hw]⟩
 simp only[J2,List.getElem?_cons_succ,List.getElem?_cons_zero]
 refine⟨fun v fl w2=>∃r,v=.map (some r)∧Jj4 y r fl w2,?_,?_,?_,?_⟩
 ·rintro fl-
  refine⟨rfl,fun w' hw'=>.inr ⟨34,#[],by kernel_rfl,?_⟩⟩
  obtain⟨⟨x,rfl⟩,hfb⟩:=hw'
  refine(Ja1 x.world).mono ?_
  rintro e w2 ⟨r,rfl,hr1,hr2,hb2⟩
  refine⟨_,rfl,r,rfl,JoE x.below hb2,Nat.le_trans x.below.size hr1,hr2,fun b hb'=>⟨(hfb b hb').1,?_⟩⟩
  have:=(hfb b hb').2
  exact(hb2.block b (JoM this).1).trans this
 ·rintro v fl g'-w2 ⟨r,-,hst⟩
  exact(Jf hst.1 hgy _ rfl).trans hcy
 ·rintro-v w2 ⟨r,rfl,h1,h2,h3,-⟩
  exact⟨r,rfl,Below.all h1 _,h2,(heap_alloc_old _ _ (JoM h3).1).trans h3,fun b hb'=>by cases hb';exact⟨h1.size,heap_alloc_new _ _⟩⟩
 rintro v ⟨fl0,w20,r,rfl,-⟩
 refine⟨fun v fl w2=>v=.tuple #[.agg #[.nilFunc],false]∧Jj4 y r fl w2,?_,fun _ _=>Jz rfl,?_,?_⟩
 ·rintro fl-
  refine JA.made rfl ?_
  rintro w' ⟨r',hr',hst⟩
  cases hr'
  exact⟨.tuple #[.agg #[.nilFunc],false],w',QE _ _ (vm:=.map (some r)) (vx:=.int .u8 ((x0:Int)/16)) (by kernel_rfl) (by kernel_rfl) (HLK.out r w' hst.2.2.1),rfl,hst⟩
 ·rintro-v w2 ⟨h0,h1,h2,h3,-⟩
  exact⟨h0,Below.all h1 _,h2,(heap_alloc_old _ _ (JoM h3).1).trans h3,fun b hb'=>by cases hb';exact⟨h1.size,heap_alloc_new _ _⟩⟩
 rintro v ⟨fl1,w21,rfl,-⟩
 refine⟨.tuple #[.agg #[.nilFunc],false],⟨rfl,fun _=>by kernel_rfl⟩,?_⟩
 refine⟨.agg #[.nilFunc],⟨rfl,fun _=>by kernel_rfl⟩,?_⟩
 refine⟨.bool false,⟨rfl,fun _=>by kernel_rfl⟩,?_⟩
 intro bp
 refine⟨fun v fl w2=>v=undef∧Below y.heap.size y w2∧y.heap.size≤bp∧w2.heap[bp]? =some (.cells #[.nilFunc] 79 (0,0)),?_,fun _ _=>Jz rfl,(fun h=>by cases h),?_⟩
 ·rintro fl rfl
  refine JA.skip rfl ?_
  rintro w' ⟨-,hst⟩
  obtain⟨hbge,hbx⟩:=hst.2.2.2 bp rfl
  have q1:=cell_of_row _ _ 0 _ _ (0,0) hbx
  have q2:=frozen_of_row _ _ 0 _ _ hbx
  refine⟨_,?_,hst.1.setCell (p:=⟨bp,0,none⟩) hbge (.nilFunc),hbge,(heap_setCell_same _ bp 0 _ _ (.nilFunc) hbx).trans rfl⟩
  simp[execOp,go_sem,QV,q1,q2]
 rintro v ⟨fl2,w22,rfl,-⟩
 refine⟨.bool false,⟨rfl,fun _=>by kernel_rfl⟩,?_⟩
 rintro zz ⟨-,hzz,hbge,hpz⟩
 have HZ:=JoL (JoE HB.out hzz)
 have HXZ:=JoL ((hzz.block b0 hb0y).trans HX.out)
 have HRZ:=JoL (HR.out.below hzz)
 have HPZ:=JoL hpz
 have hb0z:b0<zz.heap.size:=JoP hb0y hzz.size
 have hne:bp≠b0:=by omega
 have hrf:Jk zz b0 40=true:=by rw[Jd _ _ _ _ _ HXZ.out];rfl
 clear hzz hpz hbge hcy hgy hb0y w20 w21 w22 fl0 fl1 fl2 HX HB HR HLK
 unfold QV
 simp only[Act.put,List.setIfInBounds_toArray,List.set_cons_succ,List.set_cons_zero]
 have HE:=JoL (X0 (l:=l) (err:=50) (by unfold Qq;rw[if_neg (by omega),if_neg (by omega),HE0.out,if_neg hk.1,if_neg hk.2]) (by decide))
 clear hk
 go_wp2_with fail
 exact Qg (cs:=Ja5) b0 rfl rfl (Ja (Ji HXZ.out) rfl) rfl HE.out (HZ.out.trans (Je _ (Nat.le_of_eq HB0.out.symm)))
theorem Jlq {l:List Int}(h:Jp l):Jp (Qm l).body:=Qn (Qe h _) _
theorem Jmp {l:List Int}(h:Jp l):Jp (QW l).body:=Qe (Qn (Qe h _) _) _
theorem Jmq (l:List Int):(Qm l).body.length≤l.length:=by
 show(JaC l).length≤_;unfold JaC;rw[List.length_take,List.length_drop];omega
theorem Jnk (l:List Int):(QW l).body.length≤l.length:=by
 show(XV l).length≤_;unfold XV;rw[List.length_drop,List.length_take,List.length_drop];omega
theorem Jen (oa:Option Addr)(n cap:Nat)(l:List Int)(w:World)(hr:Jg w oa n cap l)(hn1:0<n)(hn2:n≤2048)(hk:l.getD 0 0/16=4):
 Calls Tryz.prog 11 #[.slice oa n cap] w (Jj w (pkR l)):=by
 obtain⟨g,off,rfl,hgl,hcs⟩:=hr.here hn1
 have hc0:=hcs 0 hn1
 have hx0:=Qt hr.byte 0
 rw[Nat.add_zero] at hc0
 obtain⟨x0,e0⟩:∃x:Nat,l.getD 0 0=(x:Int):=⟨(l.getD 0 0).toNat,by omega⟩
 have HE0:=JoL e0
 rw[e0] at hc0 hx0 hk
 have hd:decide ((n:Int)>2048)=false:=by simp;omega
 have hd2:((n:Int)==0)=false:=by simp;omega
 have hn0:(0:Int)<(n:Int):=by omega
 have hlen:=hr.len
 have hx:=heap_alloc_new w (.cells Ja5 32)
 have hB:Below w.heap.size w (w.alloc (.cells Ja5 32)):=Below.all (JoO _ _) _
 have HR:=JoL (hr.alloc (.cells Ja5 32))
 have HBY:=JoL hr.byte
 unfold Ja5 at hx hB HR
 clear hr
 have hcy:=(Jf hB hgl (⟨g,off,none⟩:Addr) rfl).trans hc0
 have hgy:g<(w.alloc (.cells (Jpc false false (.int .i64 0) false) 32)).heap.size:=JoP hgl hB.size
 have HLK:Hid (∀r w',w'.heap[r]? =some (.map X9 2)→(Instr.lookup 81 (.map (some r)) (.int .u8 4) true).run Tryz.prog w'=.ok (.tuple #[.agg #[.func (.func 79) #[] #[]],true]) w'):=JoL (fun r w' h=>Jee r w' h)
 clear hcs e0 hc0
 go_enter Tryz.func11,Tryz.ntmps11
 go_wp2_with fail
 obtain⟨b0,hb0⟩:∃b,b=w.heap.size:=⟨_,rfl⟩
 rw[←hb0] at hx⊢
 have HB0:=JoL hb0
 clear hb0
 generalize w.alloc (.cells (Jpc false false (.int .i64 0) false) 32)=y at*
 have hb0y:b0<y.heap.size:=(JoM hx).1
 have HX:=JoL hx
 have HB:=JoL hB
 clear hx hB
 refine JM [.w,.h,.h,.h,.h] [(1,1,0),(2,1,0),(3,1,0),(4,1,0)] (fun _ w'=>w'.cell? ⟨g,off,none⟩=some (.int .u8 (x0:Int))) [1] [(.w,0),(.w,5),(.q,6),(.q,7),(.q,8)] [(.w,10),(.q,11)] 9 (.cells #[.nilFunc] 79) (by kernel_rfl) (by kernel_rfl) rfl rfl ⟨fun _=>rfl,fun _ _=>by kernel_rfl⟩ (by kernel_rfl) (by kernel_rfl) ?_
 apply Exists.intro
 refine⟨fun wx hbx=>?_,?_,?_⟩
 ·have hcx:wx.cell? ⟨g,off,none⟩=some (.int .u8 (x0:Int)):=(Jf hbx hgy _ rfl).trans hcy
  have hbx2:g<wx.heap.size:=JoP hgy hbx.size
  simp only[Jx]
  repeat go_big_quiet_step (fail)
  exact wpQuiet_nil rfl
 ·intro q hq oi hoi
  simp only[List.mem_cons,List.not_mem_nil,or_false] at hq
  rcases hq with rfl|rfl|rfl|rfl
  ·cases hoi;exact⟨_,rfl,rfl,fun w2 hw=>by kernel_rfl⟩
  ·cases hoi;exact⟨_,rfl,rfl,fun w2 hw=>by simp[execOp,go_sem,hn0];intro h;exfalso;omega⟩
  ·cases hoi;exact⟨_,rfl,rfl,fun w2 hw=>by simp[execOp,go_sem,hw]⟩
  ·cases hoi;exact⟨_,rfl,rfl,fun w2 hw=>by simp[execOp,go_sem,hw,hk]⟩
 simp only[J2,List.getElem?_cons_succ,List.getElem?_cons_zero]
 refine⟨fun v fl w2=>∃r,v=.map (some r)∧Jj4 y r fl w2,?_,?_,?_,?_⟩
 ·rintro fl-
  refine⟨rfl,fun w' hw'=>.inr ⟨34,#[],by kernel_rfl,?_⟩⟩
  obtain⟨⟨x,rfl⟩,hfb⟩:=hw'
  refine(Ja1 x.world).mono ?_
  rintro e w2 ⟨r,rfl,hr1,hr2,hb2⟩
  refine⟨_,rfl,r,rfl,JoE x.below hb2,Nat.le_trans x.below.size hr1,hr2,fun b hb'=>⟨(hfb b hb').1,?_⟩⟩
  have:=(hfb b hb').2
  exact(hb2.block b (JoM this).1).trans this
 ·rintro v fl g'-w2 ⟨r,-,hst⟩
  exact(Jf hst.1 hgy _ rfl).trans hcy
 ·rintro-v w2 ⟨r,rfl,h1,h2,h3,-⟩
  exact⟨r,rfl,Below.all h1 _,h2,(heap_alloc_old _ _ (JoM h3).1).trans h3,fun b hb'=>by cases hb';exact⟨h1.size,heap_alloc_new _ _⟩⟩
 rintro v ⟨fl0,w20,r,rfl,-⟩
 refine⟨fun v fl w2=>v=.tuple #[.agg #[.func (.func 79) #[] #[]],true]∧Jj4 y r fl w2,?_,fun _ _=>Jz rfl,?_,?_⟩
 ·rintro fl-
  refine JA.made rfl ?_
  rintro w' ⟨r',hr',hst⟩
  cases hr'
  exact⟨.tuple #[.agg #[.func (.func 79) #[] #[]],true],w',QE _ _ (vm:=.map (some r)) (vx:=.int .u8 4) (by kernel_rfl) (by kernel_rfl) (HLK.out r w' hst.2.2.1),rfl,hst⟩
 ·rintro-v w2 ⟨h0,h1,h2,h3,-⟩
  exact⟨h0,Below.all h1 _,h2,(heap_alloc_old _ _ (JoM h3).1).trans h3,fun b hb'=>by cases hb';exact⟨h1.size,heap_alloc_new _ _⟩⟩
 rintro v ⟨fl1,w21,rfl,-⟩
 refine⟨.tuple #[.agg #[.func (.func 79) #[] #[]],true],⟨rfl,fun _=>by kernel_rfl⟩,?_⟩
 refine⟨.agg #[.func (.func 79) #[] #[]],⟨rfl,fun _=>by kernel_rfl⟩,?_⟩
 refine⟨.bool true,⟨rfl,fun _=>by kernel_rfl⟩,?_⟩
 intro bp
 refine⟨fun v fl w2=>v=undef∧Below y.heap.size y w2∧y.heap.size≤bp∧w2.heap[bp]? =some (.cells #[.func (.func 79) #[] #[]] 79 (0,0)),?_,fun _ _=>Jz rfl,(fun h=>by cases h),?_⟩
 ·rintro fl rfl
  refine JA.skip rfl ?_
  rintro w' ⟨-,hst⟩
  obtain⟨hbge,hbx⟩:=hst.2.2.2 bp rfl
  have q1:=cell_of_row _ _ 0 _ _ (0,0) hbx
  have q2:=frozen_of_row _ _ 0 _ _ hbx
  refine⟨_,?_,hst.1.setCell (p:=⟨bp,0,none⟩) hbge (.func (.func 79) #[] #[]),hbge,(heap_setCell_same _ bp 0 _ _ (.func (.func 79) #[] #[]) hbx).trans rfl⟩
  simp[execOp,go_sem,QV,q1,q2]
 rintro v ⟨fl2,w22,rfl,-⟩
 refine⟨.bool true,⟨rfl,fun _=>by kernel_rfl⟩,?_⟩
 rintro zz ⟨-,hzz,hbge,hpz⟩
 have HZ:=JoL (JoE HB.out hzz)
 have HXZ:=JoL ((hzz.block b0 hb0y).trans HX.out)
 have HRZ:=JoL (HR.out.below hzz)
 have HPZ:=JoL hpz
 have hb0z:b0<zz.heap.size:=JoP hb0y hzz.size
 have hne:bp≠b0:=by omega
 have hrf:Jk zz b0 40=true:=by rw[Jd _ _ _ _ _ HXZ.out];rfl
 clear hzz hpz hbge hcy hgy hb0y w20 w21 w22 fl0 fl1 fl2 HX HB HR HLK
 unfold QV
 simp only[Act.put,List.setIfInBounds_toArray,List.set_cons_succ,List.set_cons_zero]
 have c0:=cell_of_row _ _ 0 _ _ (0,0) HPZ.out
 have lp:bp<zz.heap.size:=(JoM HPZ.out).1
 have HER:Hid (Qq l=if JE l≠0 then JE l else (JbQ (Qm l)).err):=JoL (by unfold Qq;rw[if_neg (by omega),if_neg (by omega),HE0.out,hk];rw[if_pos rfl])
 have HOF:Hid (Qq l=0→Jkd l=Jjt (Qm l) (JbQ (Qm l))):=JoL (fun h=>by unfold Jkd;rw[h,if_neg (by decide),HE0.out,hk];rfl)
 clear hk
 go_wp2_with fail
 refine JoN (Jlm _ _ _ _ _ HRZ.out (by omega)) ?_
 rintro e z1 (⟨h0,rfl,hb⟩|⟨h0,ob,cb,rfl,ho,hb⟩)
 ·have HE:=JoL (X0 (l:=l) (err:=JE l) (by rw[HER.out,if_pos h0]) h0)
  have hne0:(JE l==0)=false:=by simpa using h0
  have hne1:(JE l != 0)=true:=by simpa using h0
  have HB1:=JoL (JoE HZ.out hb)
  have HX1:=JoL ((hb.block b0 hb0z).trans HXZ.out)
  have hb01:b0<z1.heap.size:=JoP hb0z hb.size
  clear hb h0 HZ HXZ HRZ HPZ c0 lp hrf HER HOF
  generalize JE l=er at*
  unfold JcX
  go_wp2_with fail
  have hxo:=heap_alloc_new z1 (.cells (Jpg false false (.int .i64 0) false false) 85)
  have hbo:Below z1.heap.size z1 (z1.alloc (.cells (Jpg false false (.int .i64 0) false false) 85)):=Below.all (JoO _ _) _
  generalize z1.alloc (.cells (Jpg false false (.int .i64 0) false false) 85)=z2 at*
  have HX2:=JoL ((hbo.block b0 hb01).trans HX1.out)
  have HB2:=JoL (JoE HB1.out hbo)
  obtain⟨bo,hboe⟩:∃b,b=z1.heap.size:=⟨_,rfl⟩
  rw[←hboe] at hxo⊢
  have HO2:=JoL hxo
  clear hxo hbo HX1 HB1 hboe hb01
  refine JoN (Xn 0 _) ?_
  rintro e z3 ⟨rfl,hb3⟩
  rw[show JS 0=false from rfl]
  have HX3:=JoL ((hb3.block b0 (JoM HX2.out).1).trans HX2.out)
  have HO3:=JoL ((hb3.block bo (JoM HO2.out).1).trans HO2.out)
  have HB3:=JoL (JoE HB2.out hb3)
  have lo3:bo<z3.heap.size:=(JoM HO3.out).1
  have c34:=cell_of_row _ _ 34 _ _ (0,0) HO3.out
  clear hb3 HX2 HO2 HB2
  go_wp2_with fail
  refine JoN (QO 0 _) ?_
  rintro e z4 ⟨rfl,hb4⟩
  rw[show JY 0=false from rfl]
  have HX4:=JoL ((hb4.block b0 (JoM HX3.out).1).trans HX3.out)
  have HB4:=JoL (JoE HB3.out hb4)
  have hrf:Jk z4 b0 40=true:=by rw[Jd _ _ _ _ _ HX4.out];rfl
  clear hb4 HX3 HB3 HO3 c34 lo3
  go_wp2_with fail
  exact Qg (cs:=Ja5) b0 rfl rfl (Ja (Ji HX4.out) rfl) rfl HE.out (HB4.out.trans (Je _ (Nat.le_of_eq HB0.out.symm)))
 have HOUT:Hid (Qm l=⟨false,(Qm l).src,(Qm l).dst,(Qm l).proto,(Qm l).len,(Qm l).frag,(Qm l).more,(Qm l).body⟩):=JoL rfl
 have HBB:=JoL (Jlq (l:=l) HBY.out)
 have HBL:=JoL (Jmq l)
 have hER2:Qq l=(JbQ (Qm l)).err:=by rw[HER.out,if_neg (by rw[h0];decide)]
 have HER2:=JoL hER2
 have HB1:=JoL (JoE HZ.out hb)
 have HX1:=JoL ((hb.block b0 hb0z).trans HXZ.out)
 have hb01:b0<z1.heap.size:=JoP hb0z hb.size
 have HLO:=JoL (fun a (ha:ob=some a)=>(ho.lt ha))
 have HOW:=JoL ho
 clear hb h0 HZ HXZ HRZ HPZ c0 lp hrf hER2 HER ho hb0z
 unfold Jn6
 generalize Qm l=O at*
 obtain⟨o6,S,D,p,ln,fr,mo,L⟩:=O
 simp only at HOUT HBB HBL HER2 HOF HOW⊢
 obtain rfl:o6=false:=congrArg JcE.six HOUT.out
 have HRB:=JoL (HOW.out.reads HBB.out)
 obtain⟨nb,hnb⟩:∃n,L.length=n:=⟨_,rfl⟩
 have HNB:=JoL hnb
 rw[hnb] at HRB HBL⊢
 clear hnb HOW HOUT
 go_wp2_with fail
 have hxo:=heap_alloc_new z1 (.cells (Jpf false false p (.int .i64 ln) fr (.slice ob nb cb) mo S D) 85)
 have hbo:Below z1.heap.size z1 (z1.alloc (.cells (Jpf false false p (.int .i64 ln) fr (.slice ob nb cb) mo S D) 85)):=Below.all (JoO _ _) _
 generalize z1.alloc (.cells (Jpf false false p (.int .i64 ln) fr (.slice ob nb cb) mo S D) 85)=z2 at*
 have HX2:=JoL ((hbo.block b0 hb01).trans HX1.out)
 have HB2:=JoL (JoE HB1.out hbo)
 have HR2:=JoL (HRB.out.below hbo)
 obtain⟨bo,hboe⟩:∃b,b=z1.heap.size:=⟨_,rfl⟩
 rw[←hboe] at hxo⊢
 have HO2:=JoL hxo
 have HNE:Hid ((∀a,ob=some a→a.block≠bo)∧bo≠b0):=JoL ⟨fun a ha=>by have:=(HLO.out a ha).2;omega,by omega⟩
 have HLB:Hid (w.heap.size≤bo):=JoL (by rw[hboe];exact HB1.out.size)
 clear hxo hbo HX1 HB1 hboe hb01 HLO HRB hne
 refine JoN (Xn p _) ?_
 rintro e z3 ⟨rfl,hb3⟩
 have HX3:=JoL ((hb3.block b0 (JoM HX2.out).1).trans HX2.out)
 have HO3:=JoL ((hb3.block bo (JoM HO2.out).1).trans HO2.out)
 have HB3:=JoL (JoE HB2.out hb3)
 have HR3:=JoL (HR2.out.below hb3)
 clear hb3 HX2 HO2 HB2 HR2
 have HPI:Hid ((JS p=true→p=6∨p=17∨p=1∨p=58)∧(JY p=true→p=6∨p=17∨p=1∨p=58)):=JoL ⟨fun h=>by unfold JS at h;simp at h;omega,fun h=>by unfold JY at h;simp at h;omega⟩
 have HUP:Hid (JbQ ⟨false,S,D,p,ln,fr,mo,L⟩=if (JS p||JY p)&&!fr then (if mo then JI p L else Ju p L) else ⟨0,0,0,0⟩):=JoL rfl
 have HIC:Hid (∀w',Calls Tryz.prog 36 #[p] w' (Jj w' (.bool (JY p)))):=JoL (fun w'=>QO p w')
 obtain⟨P1,hP1⟩:∃b,JS p=b:=⟨_,rfl⟩
 obtain⟨I1,hI1⟩:∃b,JY p=b:=⟨_,rfl⟩
 rw[hP1,hI1] at HUP HPI
 rw[hI1] at HIC
 rw[hP1]
 clear hP1 hI1
 cases P1
 ·cases I1
  ·skip
   have lo3:bo<z3.heap.size:=(JoM HO3.out).1
   have c34:=cell_of_row _ _ 34 _ _ (0,0) HO3.out
   have c39:=cell_of_row _ _ 39 _ _ (0,0) HO3.out
   have c41:=cell_of_row _ _ 41 _ _ (0,0) HO3.out
   have hU:JbQ ⟨false,S,D,p,ln,fr,mo,L⟩=⟨0,0,0,0⟩:=by rw[HUP.out];rfl
   have hE:Qq l=0:=by rw[HER2.out,hU]
   have HV:Hid (pkR l=.tuple #[.agg #[.bool false,.int .u8 (S 0),.int .u8 (S 1),.int .u8 (S 2),.int .u8 (S 3),.int .u8 (S 4),.int .u8 (S 5),.int .u8 (S 6),.int .u8 (S 7),.int .u8 (S 8),.int .u8 (S 9),.int .u8 (S 10),.int .u8 (S 11),.int .u8 (S 12),.int .u8 (S 13),.int .u8 (S 14),.int .u8 (S 15),.bool false,.int .u8 (D 0),.int .u8 (D 1),.int .u8 (D 2),.int .u8 (D 3),.int .u8 (D 4),.int .u8 (D 5),.int .u8 (D 6),.int .u8 (D 7),.int .u8 (D 8),.int .u8 (D 9),.int .u8 (D 10),.int .u8 (D 11),.int .u8 (D 12),.int .u8 (D 13),.int .u8 (D 14),.int .u8 (D 15),.int .u8 p,.int .u16 0,.int .u16 0,.int .i64 ln,.int .u8 0,.bool fr],.int .i64 0]):=JoL (by unfold pkR;rw[hE,HOF.out hE,hU];rfl)
   clear hU hE HUP HER2 HOF
   clear c39 c41
   go_wp2_with fail
   refine JoN (HIC.out _) ?_
   rintro e z4 ⟨rfl,hb4⟩
   have HX4:=JoL ((hb4.block b0 (JoM HX3.out).1).trans HX3.out)
   have HO4:=JoL ((hb4.block bo (JoM HO3.out).1).trans HO3.out)
   have HB4:=JoL (JoE HB3.out hb4)
   have HR4:=JoL (HR3.out.below hb4)
   clear hb4 c34 lo3 HX3 HO3 HB3 HR3
   have lo4:bo<z4.heap.size:=(JoM HO4.out).1
   have c39:=cell_of_row _ _ 39 _ _ (0,0) HO4.out
   have c41:=cell_of_row _ _ 41 _ _ (0,0) HO4.out
   have hpt:Jb z4 bo 0 40=(Jo5 false false p (.int .i64 ln) fr S D:Array Value):=Qk (a:=(Jo5 false false p (.int .i64 ln) fr S D)) (c:=#[.slice ob nb cb,mo]) HO4.out rfl
   have hrf:Jk z4 b0 40=true:=by rw[Jd _ _ _ _ _ HX4.out];rfl
   go_wp2_with fail
   exact Qg (cs:=(Jo5 false false p (.int .i64 ln) fr S D)) b0 rfl rfl (Ja (Ji HX4.out) rfl) rfl HV.out (HB4.out.trans (Je _ (Nat.le_of_eq HB0.out.symm)))
  ·cases fr
   ·cases mo
    ·skip
     have lo3:bo<z3.heap.size:=(JoM HO3.out).1
     have c34:=cell_of_row _ _ 34 _ _ (0,0) HO3.out
     have c39:=cell_of_row _ _ 39 _ _ (0,0) HO3.out
     have c41:=cell_of_row _ _ 41 _ _ (0,0) HO3.out
     clear c39 c41
     go_wp2_with fail
     refine JoN (HIC.out _) ?_
     rintro e z4 ⟨rfl,hb4⟩
     have HX4:=JoL ((hb4.block b0 (JoM HX3.out).1).trans HX3.out)
     have HO4:=JoL ((hb4.block bo (JoM HO3.out).1).trans HO3.out)
     have HB4:=JoL (JoE HB3.out hb4)
     have HR4:=JoL (HR3.out.below hb4)
     clear hb4 c34 lo3 HX3 HO3 HB3 HR3
     have lo4:bo<z4.heap.size:=(JoM HO4.out).1
     have c39:=cell_of_row _ _ 39 _ _ (0,0) HO4.out
     have c41:=cell_of_row _ _ 41 _ _ (0,0) HO4.out
     have hU:JbQ ⟨false,S,D,p,ln,false,false,L⟩=Ju p L:=by rw[HUP.out];rfl
     have hE:Qq l=(Ju p L).err:=by rw[HER2.out,hU]
     have HE2:=JoL hE
     have HV:Hid (Qq l=0→pkR l=.tuple #[.agg #[.bool false,.int .u8 (S 0),.int .u8 (S 1),.int .u8 (S 2),.int .u8 (S 3),.int .u8 (S 4),.int .u8 (S 5),.int .u8 (S 6),.int .u8 (S 7),.int .u8 (S 8),.int .u8 (S 9),.int .u8 (S 10),.int .u8 (S 11),.int .u8 (S 12),.int .u8 (S 13),.int .u8 (S 14),.int .u8 (S 15),.bool false,.int .u8 (D 0),.int .u8 (D 1),.int .u8 (D 2),.int .u8 (D 3),.int .u8 (D 4),.int .u8 (D 5),.int .u8 (D 6),.int .u8 (D 7),.int .u8 (D 8),.int .u8 (D 9),.int .u8 (D 10),.int .u8 (D 11),.int .u8 (D 12),.int .u8 (D 13),.int .u8 (D 14),.int .u8 (D 15),.int .u8 p,.int .u16 (Ju p L).src,.int .u16 (Ju p L).dst,.int .i64 ln,.int .u8 (Ju p L).flags,.bool false],.int .i64 0]):=JoL (fun h=>by unfold pkR;rw[h,HOF.out h,hU];rfl)
     clear hU hE HUP HER2 HOF
     have HCC:=JoL (Jdv bo false false S D p ln false false ob nb cb L z4 (HPI.out.2 (by first|rfl|trivial)) HR4.out (by have:=HBL.out;omega) HO4.out)
     go_wp2_with fail
     refine JoN HCC.out ?_
     rintro e z5 ⟨sp,dp,fl,⟨rfl,hbx,hbe,hot⟩,hval⟩
     have HX5:=JoL ((hot b0 HNE.out.2.symm (JoM HX4.out).1).trans HX4.out)
     have HO5:=JoL hbx
     have HB5:Hid (Below w.heap.size w z5):=JoL (HB4.out.trans (hbe.mono HLB.out))
     have hrf:Jk z5 b0 40=true:=by rw[Jd _ _ _ _ _ HX5.out];rfl
     have lo5:bo<z5.heap.size:=(JoM HO5.out).1
     clear hbx hbe hot HCC HX4 HO4 HB4 HR4 c39 c41
     by_cases h0:(Ju p L).err=0
     ·obtain⟨rfl,rfl,rfl⟩:=hval h0
      have HV2:=JoL (HV.out (HE2.out.trans h0))
      rw[h0]
      clear HV HE2 h0 hval
      generalize (Ju p L).src=sp at*
      generalize (Ju p L).dst=dp at*
      generalize (Ju p L).flags=fl at*
      have hpt:Jb z5 bo 0 40=(JoY false false p (.int .u16 sp) (.int .u16 dp) (.int .i64 ln) fl false S D:Array Value):=Qk (a:=(JoY false false p (.int .u16 sp) (.int .u16 dp) (.int .i64 ln) fl false S D)) (c:=#[.slice ob nb cb,false]) HO5.out rfl
      go_wp2_with fail
      exact Qg (cs:=(JoY false false p (.int .u16 sp) (.int .u16 dp) (.int .i64 ln) fl false S D)) b0 rfl rfl (Ja (Ji HX5.out) rfl) rfl HV2.out (HB5.out.trans (Je _ (Nat.le_of_eq HB0.out.symm)))
     ·have HV2:=JoL (X0 (l:=l) HE2.out h0)
      have hne1:((Ju p L).err != 0)=true:=by simpa using h0
      clear HV HE2 h0 hval
      generalize (Ju p L).err=er at*
      go_wp2_with fail
      exact Qg (cs:=Ja5) b0 rfl rfl (Ja (Ji HX5.out) rfl) rfl HV2.out (HB5.out.trans (Je _ (Nat.le_of_eq HB0.out.symm)))
    ·skip
     have lo3:bo<z3.heap.size:=(JoM HO3.out).1
     have c34:=cell_of_row _ _ 34 _ _ (0,0) HO3.out
     have c39:=cell_of_row _ _ 39 _ _ (0,0) HO3.out
     have c41:=cell_of_row _ _ 41 _ _ (0,0) HO3.out
     clear c39 c41
     go_wp2_with fail
     refine JoN (HIC.out _) ?_
     rintro e z4 ⟨rfl,hb4⟩
     have HX4:=JoL ((hb4.block b0 (JoM HX3.out).1).trans HX3.out)
     have HO4:=JoL ((hb4.block bo (JoM HO3.out).1).trans HO3.out)
     have HB4:=JoL (JoE HB3.out hb4)
     have HR4:=JoL (HR3.out.below hb4)
     clear hb4 c34 lo3 HX3 HO3 HB3 HR3
     have lo4:bo<z4.heap.size:=(JoM HO4.out).1
     have c39:=cell_of_row _ _ 39 _ _ (0,0) HO4.out
     have c41:=cell_of_row _ _ 41 _ _ (0,0) HO4.out
     have hU:JbQ ⟨false,S,D,p,ln,false,true,L⟩=JI p L:=by rw[HUP.out];rfl
     have hE:Qq l=(JI p L).err:=by rw[HER2.out,hU]
     have HE2:=JoL hE
     have HV:Hid (Qq l=0→pkR l=.tuple #[.agg #[.bool false,.int .u8 (S 0),.int .u8 (S 1),.int .u8 (S 2),.int .u8 (S 3),.int .u8 (S 4),.int .u8 (S 5),.int .u8 (S 6),.int .u8 (S 7),.int .u8 (S 8),.int .u8 (S 9),.int .u8 (S 10),.int .u8 (S 11),.int .u8 (S 12),.int .u8 (S 13),.int .u8 (S 14),.int .u8 (S 15),.bool false,.int .u8 (D 0),.int .u8 (D 1),.int .u8 (D 2),.int .u8 (D 3),.int .u8 (D 4),.int .u8 (D 5),.int .u8 (D 6),.int .u8 (D 7),.int .u8 (D 8),.int .u8 (D 9),.int .u8 (D 10),.int .u8 (D 11),.int .u8 (D 12),.int .u8 (D 13),.int .u8 (D 14),.int .u8 (D 15),.int .u8 p,.int .u16 (JI p L).src,.int .u16 (JI p L).dst,.int .i64 ln,.int .u8 (JI p L).flags,.bool false],.int .i64 0]):=JoL (fun h=>by unfold pkR;rw[h,HOF.out h,hU];rfl)
     clear hU hE HUP HER2 HOF
     have HCC:=JoL (Jdu bo false false S D p ln false true ob nb cb L z4 (HPI.out.2 (by first|rfl|trivial)) HR4.out (by have:=HBL.out;omega) HNE.out.1 HO4.out)
     go_wp2_with fail
     refine JoN HCC.out ?_
     rintro e z5 ⟨sp,dp,fl,⟨rfl,hbx,hbe,hot⟩,hval⟩
     have HX5:=JoL ((hot b0 HNE.out.2.symm (JoM HX4.out).1).trans HX4.out)
     have HO5:=JoL hbx
     have HB5:Hid (Below w.heap.size w z5):=JoL (HB4.out.trans (hbe.mono HLB.out))
     have hrf:Jk z5 b0 40=true:=by rw[Jd _ _ _ _ _ HX5.out];rfl
     have lo5:bo<z5.heap.size:=(JoM HO5.out).1
     clear hbx hbe hot HCC HX4 HO4 HB4 HR4 c39 c41
     by_cases h0:(JI p L).err=0
     ·obtain⟨rfl,rfl,rfl⟩:=hval h0
      have HV2:=JoL (HV.out (HE2.out.trans h0))
      rw[h0]
      clear HV HE2 h0 hval
      generalize (JI p L).src=sp at*
      generalize (JI p L).dst=dp at*
      generalize (JI p L).flags=fl at*
      have hpt:Jb z5 bo 0 40=(JoY false false p (.int .u16 sp) (.int .u16 dp) (.int .i64 ln) fl false S D:Array Value):=Qk (a:=(JoY false false p (.int .u16 sp) (.int .u16 dp) (.int .i64 ln) fl false S D)) (c:=#[.slice ob nb cb,true]) HO5.out rfl
      go_wp2_with fail
      exact Qg (cs:=(JoY false false p (.int .u16 sp) (.int .u16 dp) (.int .i64 ln) fl false S D)) b0 rfl rfl (Ja (Ji HX5.out) rfl) rfl HV2.out (HB5.out.trans (Je _ (Nat.le_of_eq HB0.out.symm)))
     ·have HV2:=JoL (X0 (l:=l) HE2.out h0)
      have hne1:((JI p L).err != 0)=true:=by simpa using h0
      clear HV HE2 h0 hval
      generalize (JI p L).err=er at*
      go_wp2_with fail
      exact Qg (cs:=Ja5) b0 rfl rfl (Ja (Ji HX5.out) rfl) rfl HV2.out (HB5.out.trans (Je _ (Nat.le_of_eq HB0.out.symm)))
   ·skip
    have lo3:bo<z3.heap.size:=(JoM HO3.out).1
    have c34:=cell_of_row _ _ 34 _ _ (0,0) HO3.out
    have c39:=cell_of_row _ _ 39 _ _ (0,0) HO3.out
    have c41:=cell_of_row _ _ 41 _ _ (0,0) HO3.out
    have hU:JbQ ⟨false,S,D,p,ln,true,mo,L⟩=⟨0,0,0,0⟩:=by rw[HUP.out];rfl
    have hE:Qq l=0:=by rw[HER2.out,hU]
    have HV:Hid (pkR l=.tuple #[.agg #[.bool false,.int .u8 (S 0),.int .u8 (S 1),.int .u8 (S 2),.int .u8 (S 3),.int .u8 (S 4),.int .u8 (S 5),.int .u8 (S 6),.int .u8 (S 7),.int .u8 (S 8),.int .u8 (S 9),.int .u8 (S 10),.int .u8 (S 11),.int .u8 (S 12),.int .u8 (S 13),.int .u8 (S 14),.int .u8 (S 15),.bool false,.int .u8 (D 0),.int .u8 (D 1),.int .u8 (D 2),.int .u8 (D 3),.int .u8 (D 4),.int .u8 (D 5),.int .u8 (D 6),.int .u8 (D 7),.int .u8 (D 8),.int .u8 (D 9),.int .u8 (D 10),.int .u8 (D 11),.int .u8 (D 12),.int .u8 (D 13),.int .u8 (D 14),.int .u8 (D 15),.int .u8 p,.int .u16 0,.int .u16 0,.int .i64 ln,.int .u8 0,.bool true],.int .i64 0]):=JoL (by unfold pkR;rw[hE,HOF.out hE,hU];rfl)
    clear hU hE HUP HER2 HOF
    clear c39 c41
    go_wp2_with fail
    refine JoN (HIC.out _) ?_
    rintro e z4 ⟨rfl,hb4⟩
    have HX4:=JoL ((hb4.block b0 (JoM HX3.out).1).trans HX3.out)
    have HO4:=JoL ((hb4.block bo (JoM HO3.out).1).trans HO3.out)
    have HB4:=JoL (JoE HB3.out hb4)
    have HR4:=JoL (HR3.out.below hb4)
    clear hb4 c34 lo3 HX3 HO3 HB3 HR3
    have lo4:bo<z4.heap.size:=(JoM HO4.out).1
    have c39:=cell_of_row _ _ 39 _ _ (0,0) HO4.out
    have c41:=cell_of_row _ _ 41 _ _ (0,0) HO4.out
    have hpt:Jb z4 bo 0 40=(Jo5 false false p (.int .i64 ln) true S D:Array Value):=Qk (a:=(Jo5 false false p (.int .i64 ln) true S D)) (c:=#[.slice ob nb cb,mo]) HO4.out rfl
    have hrf:Jk z4 b0 40=true:=by rw[Jd _ _ _ _ _ HX4.out];rfl
    go_wp2_with fail
    exact Qg (cs:=(Jo5 false false p (.int .i64 ln) true S D)) b0 rfl rfl (Ja (Ji HX4.out) rfl) rfl HV.out (HB4.out.trans (Je _ (Nat.le_of_eq HB0.out.symm)))
 ·cases fr
  ·cases mo
   ·skip
    have lo3:bo<z3.heap.size:=(JoM HO3.out).1
    have c34:=cell_of_row _ _ 34 _ _ (0,0) HO3.out
    have c39:=cell_of_row _ _ 39 _ _ (0,0) HO3.out
    have c41:=cell_of_row _ _ 41 _ _ (0,0) HO3.out
    have hU:JbQ ⟨false,S,D,p,ln,false,false,L⟩=Ju p L:=by rw[HUP.out];rfl
    have hE:Qq l=(Ju p L).err:=by rw[HER2.out,hU]
    have HE2:=JoL hE
    have HV:Hid (Qq l=0→pkR l=.tuple #[.agg #[.bool false,.int .u8 (S 0),.int .u8 (S 1),.int .u8 (S 2),.int .u8 (S 3),.int .u8 (S 4),.int .u8 (S 5),.int .u8 (S 6),.int .u8 (S 7),.int .u8 (S 8),.int .u8 (S 9),.int .u8 (S 10),.int .u8 (S 11),.int .u8 (S 12),.int .u8 (S 13),.int .u8 (S 14),.int .u8 (S 15),.bool false,.int .u8 (D 0),.int .u8 (D 1),.int .u8 (D 2),.int .u8 (D 3),.int .u8 (D 4),.int .u8 (D 5),.int .u8 (D 6),.int .u8 (D 7),.int .u8 (D 8),.int .u8 (D 9),.int .u8 (D 10),.int .u8 (D 11),.int .u8 (D 12),.int .u8 (D 13),.int .u8 (D 14),.int .u8 (D 15),.int .u8 p,.int .u16 (Ju p L).src,.int .u16 (Ju p L).dst,.int .i64 ln,.int .u8 (Ju p L).flags,.bool false],.int .i64 0]):=JoL (fun h=>by unfold pkR;rw[h,HOF.out h,hU];rfl)
    clear hU hE HUP HER2 HOF
    have HCC:=JoL (Jdv bo false false S D p ln false false ob nb cb L z3 (HPI.out.1 (by first|rfl|trivial)) HR3.out (by have:=HBL.out;omega) HO3.out)
    go_wp2_with fail
    refine JoN HCC.out ?_
    rintro e z5 ⟨sp,dp,fl,⟨rfl,hbx,hbe,hot⟩,hval⟩
    have HX5:=JoL ((hot b0 HNE.out.2.symm (JoM HX3.out).1).trans HX3.out)
    have HO5:=JoL hbx
    have HB5:Hid (Below w.heap.size w z5):=JoL (HB3.out.trans (hbe.mono HLB.out))
    have hrf:Jk z5 b0 40=true:=by rw[Jd _ _ _ _ _ HX5.out];rfl
    have lo5:bo<z5.heap.size:=(JoM HO5.out).1
    clear hbx hbe hot HCC HX3 HO3 HB3 HR3 c39 c41
    by_cases h0:(Ju p L).err=0
    ·obtain⟨rfl,rfl,rfl⟩:=hval h0
     have HV2:=JoL (HV.out (HE2.out.trans h0))
     rw[h0]
     clear HV HE2 h0 hval
     generalize (Ju p L).src=sp at*
     generalize (Ju p L).dst=dp at*
     generalize (Ju p L).flags=fl at*
     have hpt:Jb z5 bo 0 40=(JoY false false p (.int .u16 sp) (.int .u16 dp) (.int .i64 ln) fl false S D:Array Value):=Qk (a:=(JoY false false p (.int .u16 sp) (.int .u16 dp) (.int .i64 ln) fl false S D)) (c:=#[.slice ob nb cb,false]) HO5.out rfl
     go_wp2_with fail
     exact Qg (cs:=(JoY false false p (.int .u16 sp) (.int .u16 dp) (.int .i64 ln) fl false S D)) b0 rfl rfl (Ja (Ji HX5.out) rfl) rfl HV2.out (HB5.out.trans (Je _ (Nat.le_of_eq HB0.out.symm)))
    ·have HV2:=JoL (X0 (l:=l) HE2.out h0)
     have hne1:((Ju p L).err != 0)=true:=by simpa using h0
     clear HV HE2 h0 hval
     generalize (Ju p L).err=er at*
     go_wp2_with fail
     exact Qg (cs:=Ja5) b0 rfl rfl (Ja (Ji HX5.out) rfl) rfl HV2.out (HB5.out.trans (Je _ (Nat.le_of_eq HB0.out.symm)))
   ·skip
    have lo3:bo<z3.heap.size:=(JoM HO3.out).1
    have c34:=cell_of_row _ _ 34 _ _ (0,0) HO3.out
    have c39:=cell_of_row _ _ 39 _ _ (0,0) HO3.out
    have c41:=cell_of_row _ _ 41 _ _ (0,0) HO3.out
    have hU:JbQ ⟨false,S,D,p,ln,false,true,L⟩=JI p L:=by rw[HUP.out];rfl
    have hE:Qq l=(JI p L).err:=by rw[HER2.out,hU]
    have HE2:=JoL hE
    have HV:Hid (Qq l=0→pkR l=.tuple #[.agg #[.bool false,.int .u8 (S 0),.int .u8 (S 1),.int .u8 (S 2),.int .u8 (S 3),.int .u8 (S 4),.int .u8 (S 5),.int .u8 (S 6),.int .u8 (S 7),.int .u8 (S 8),.int .u8 (S 9),.int .u8 (S 10),.int .u8 (S 11),.int .u8 (S 12),.int .u8 (S 13),.int .u8 (S 14),.int .u8 (S 15),.bool false,.int .u8 (D 0),.int .u8 (D 1),.int .u8 (D 2),.int .u8 (D 3),.int .u8 (D 4),.int .u8 (D 5),.int .u8 (D 6),.int .u8 (D 7),.int .u8 (D 8),.int .u8 (D 9),.int .u8 (D 10),.int .u8 (D 11),.int .u8 (D 12),.int .u8 (D 13),.int .u8 (D 14),.int .u8 (D 15),.int .u8 p,.int .u16 (JI p L).src,.int .u16 (JI p L).dst,.int .i64 ln,.int .u8 (JI p L).flags,.bool false],.int .i64 0]):=JoL (fun h=>by unfold pkR;rw[h,HOF.out h,hU];rfl)
    clear hU hE HUP HER2 HOF
    have HCC:=JoL (Jdu bo false false S D p ln false true ob nb cb L z3 (HPI.out.1 (by first|rfl|trivial)) HR3.out (by have:=HBL.out;omega) HNE.out.1 HO3.out)
    go_wp2_with fail
    refine JoN HCC.out ?_
    rintro e z5 ⟨sp,dp,fl,⟨rfl,hbx,hbe,hot⟩,hval⟩
    have HX5:=JoL ((hot b0 HNE.out.2.symm (JoM HX3.out).1).trans HX3.out)
    have HO5:=JoL hbx
    have HB5:Hid (Below w.heap.size w z5):=JoL (HB3.out.trans (hbe.mono HLB.out))
    have hrf:Jk z5 b0 40=true:=by rw[Jd _ _ _ _ _ HX5.out];rfl
    have lo5:bo<z5.heap.size:=(JoM HO5.out).1
    clear hbx hbe hot HCC HX3 HO3 HB3 HR3 c39 c41
    by_cases h0:(JI p L).err=0
    ·obtain⟨rfl,rfl,rfl⟩:=hval h0
     have HV2:=JoL (HV.out (HE2.out.trans h0))
     rw[h0]
     clear HV HE2 h0 hval
     generalize (JI p L).src=sp at*
     generalize (JI p L).dst=dp at*
     generalize (JI p L).flags=fl at*
     have hpt:Jb z5 bo 0 40=(JoY false false p (.int .u16 sp) (.int .u16 dp) (.int .i64 ln) fl false S D:Array Value):=Qk (a:=(JoY false false p (.int .u16 sp) (.int .u16 dp) (.int .i64 ln) fl false S D)) (c:=#[.slice ob nb cb,true]) HO5.out rfl
     go_wp2_with fail
     exact Qg (cs:=(JoY false false p (.int .u16 sp) (.int .u16 dp) (.int .i64 ln) fl false S D)) b0 rfl rfl (Ja (Ji HX5.out) rfl) rfl HV2.out (HB5.out.trans (Je _ (Nat.le_of_eq HB0.out.symm)))
    ·have HV2:=JoL (X0 (l:=l) HE2.out h0)
     have hne1:((JI p L).err != 0)=true:=by simpa using h0
     clear HV HE2 h0 hval
     generalize (JI p L).err=er at*
     go_wp2_with fail
     exact Qg (cs:=Ja5) b0 rfl rfl (Ja (Ji HX5.out) rfl) rfl HV2.out (HB5.out.trans (Je _ (Nat.le_of_eq HB0.out.symm)))
  ·skip
   have lo3:bo<z3.heap.size:=(JoM HO3.out).1
   have c34:=cell_of_row _ _ 34 _ _ (0,0) HO3.out
   have c39:=cell_of_row _ _ 39 _ _ (0,0) HO3.out
   have c41:=cell_of_row _ _ 41 _ _ (0,0) HO3.out
   have hU:JbQ ⟨false,S,D,p,ln,true,mo,L⟩=⟨0,0,0,0⟩:=by rw[HUP.out];rfl
   have hE:Qq l=0:=by rw[HER2.out,hU]
   have HV:Hid (pkR l=.tuple #[.agg #[.bool false,.int .u8 (S 0),.int .u8 (S 1),.int .u8 (S 2),.int .u8 (S 3),.int .u8 (S 4),.int .u8 (S 5),.int .u8 (S 6),.int .u8 (S 7),.int .u8 (S 8),.int .u8 (S 9),.int .u8 (S 10),.int .u8 (S 11),.int .u8 (S 12),.int .u8 (S 13),.int .u8 (S 14),.int .u8 (S 15),.bool false,.int .u8 (D 0),.int .u8 (D 1),.int .u8 (D 2),.int .u8 (D 3),.int .u8 (D 4),.int .u8 (D 5),.int .u8 (D 6),.int .u8 (D 7),.int .u8 (D 8),.int .u8 (D 9),.int .u8 (D 10),.int .u8 (D 11),.int .u8 (D 12),.int .u8 (D 13),.int .u8 (D 14),.int .u8 (D 15),.int .u8 p,.int .u16 0,.int .u16 0,.int .i64 ln,.int .u8 0,.bool true],.int .i64 0]):=JoL (by unfold pkR;rw[hE,HOF.out hE,hU];rfl)
   clear hU hE HUP HER2 HOF
   have hpt:Jb z3 bo 0 40=(Jo5 false false p (.int .i64 ln) true S D:Array Value):=Qk (a:=(Jo5 false false p (.int .i64 ln) true S D)) (c:=#[.slice ob nb cb,mo]) HO3.out rfl
   have hrf:Jk z3 b0 40=true:=by rw[Jd _ _ _ _ _ HX3.out];rfl
   go_wp2_with fail
   exact Qg (cs:=(Jo5 false false p (.int .i64 ln) true S D)) b0 rfl rfl (Ja (Ji HX3.out) rfl) rfl HV.out (HB3.out.trans (Je _ (Nat.le_of_eq HB0.out.symm)))
end
end Go.Proofs.YtkgjbipfhhjlpaaGreatDoor
