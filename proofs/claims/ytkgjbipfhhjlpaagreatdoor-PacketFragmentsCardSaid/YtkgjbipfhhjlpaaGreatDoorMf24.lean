import Derived.Test.YtkgjbipfhhjlpaaGreatDoorMf23
set_option linter.unusedVariables false
set_option linter.unusedSimpArgs false
set_option maxRecDepth 100000
set_option maxHeartbeats 32000000
namespace Go.Proofs.YtkgjbipfhhjlpaaGreatDoor
section
open Go.RowKit
theorem JiS (l:List Int)(h:(l.all fun v=>decide (0≤v∧v<256))=true):U8 fun i=>l.getD i 0:=fun i=>
 Qr (fun v hv=>of_decide_eq_true (List.all_eq_true.1 h v hv)) i
theorem Jm7 (w:World)(h:Env w):Calls Tryz.prog 22 #[.string ⟨#[54,32,49,48,46,48,46,48,46,49,32,53,32,49,48,46,48,46,48,46,50,32,56,48]⟩] w (Jk w (.tuple #[.agg #[.bool false,.int .u8 10,.int .u8 0,.int .u8 0,.int .u8 1,.int .u8 0,.int .u8 0,.int .u8 0,.int .u8 0,.int .u8 0,.int .u8 0,.int .u8 0,.int .u8 0,.int .u8 0,.int .u8 0,.int .u8 0,.int .u8 0,.bool false,.int .u8 10,.int .u8 0,.int .u8 0,.int .u8 2,.int .u8 0,.int .u8 0,.int .u8 0,.int .u8 0,.int .u8 0,.int .u8 0,.int .u8 0,.int .u8 0,.int .u8 0,.int .u8 0,.int .u8 0,.int .u8 0,.int .u8 6,.int .u16 5,.int .u16 80],.int .i64 0])):=by
 have h1:=JaJ [54,32,49,48,46,48,46,48,46,49,32,53,32,49,48,46,48,46,48,46,50,32,56,48] w (by decide) h
 rw[show Jbs (XG [54,32,49,48,46,48,46,48,46,49,32,53,32,49,48,46,48,46,48,46,50,32,56,48])=.tuple #[.agg #[.bool false,.int .u8 10,.int .u8 0,.int .u8 0,.int .u8 1,.int .u8 0,.int .u8 0,.int .u8 0,.int .u8 0,.int .u8 0,.int .u8 0,.int .u8 0,.int .u8 0,.int .u8 0,.int .u8 0,.int .u8 0,.int .u8 0,.bool false,.int .u8 10,.int .u8 0,.int .u8 0,.int .u8 2,.int .u8 0,.int .u8 0,.int .u8 0,.int .u8 0,.int .u8 0,.int .u8 0,.int .u8 0,.int .u8 0,.int .u8 0,.int .u8 0,.int .u8 0,.int .u8 0,.int .u8 6,.int .u16 5,.int .u16 80],.int .i64 0] by kernel_rfl] at h1
 exact h1
theorem Jm8 (w:World)(h:Env w):Calls Tryz.prog 22 #[.string ⟨#[49,32,49,48,46,48,46,48,46,49,32,48,32,49,48,46,48,46,48,46,50,32,50,48,52,56]⟩] w (Jk w (.tuple #[.agg #[.bool false,.int .u8 10,.int .u8 0,.int .u8 0,.int .u8 1,.int .u8 0,.int .u8 0,.int .u8 0,.int .u8 0,.int .u8 0,.int .u8 0,.int .u8 0,.int .u8 0,.int .u8 0,.int .u8 0,.int .u8 0,.int .u8 0,.bool false,.int .u8 10,.int .u8 0,.int .u8 0,.int .u8 2,.int .u8 0,.int .u8 0,.int .u8 0,.int .u8 0,.int .u8 0,.int .u8 0,.int .u8 0,.int .u8 0,.int .u8 0,.int .u8 0,.int .u8 0,.int .u8 0,.int .u8 1,.int .u16 0,.int .u16 2048],.int .i64 0])):=by
 have h1:=JaJ [49,32,49,48,46,48,46,48,46,49,32,48,32,49,48,46,48,46,48,46,50,32,50,48,52,56] w (by decide) h
 rw[show Jbs (XG [49,32,49,48,46,48,46,48,46,49,32,48,32,49,48,46,48,46,48,46,50,32,50,48,52,56])=.tuple #[.agg #[.bool false,.int .u8 10,.int .u8 0,.int .u8 0,.int .u8 1,.int .u8 0,.int .u8 0,.int .u8 0,.int .u8 0,.int .u8 0,.int .u8 0,.int .u8 0,.int .u8 0,.int .u8 0,.int .u8 0,.int .u8 0,.int .u8 0,.bool false,.int .u8 10,.int .u8 0,.int .u8 0,.int .u8 2,.int .u8 0,.int .u8 0,.int .u8 0,.int .u8 0,.int .u8 0,.int .u8 0,.int .u8 0,.int .u8 0,.int .u8 0,.int .u8 0,.int .u8 0,.int .u8 0,.int .u8 1,.int .u16 0,.int .u16 2048],.int .i64 0] by kernel_rfl] at h1
 exact h1
theorem Jm9 (w:World)(h:Env w):Calls Tryz.prog 22 #[.string ⟨#[49,55,32,58,58,49,32,57,32,58,58,50,32,53,51]⟩] w (Jk w (.tuple #[.agg #[.bool true,.int .u8 0,.int .u8 0,.int .u8 0,.int .u8 0,.int .u8 0,.int .u8 0,.int .u8 0,.int .u8 0,.int .u8 0,.int .u8 0,.int .u8 0,.int .u8 0,.int .u8 0,.int .u8 0,.int .u8 0,.int .u8 1,.bool true,.int .u8 0,.int .u8 0,.int .u8 0,.int .u8 0,.int .u8 0,.int .u8 0,.int .u8 0,.int .u8 0,.int .u8 0,.int .u8 0,.int .u8 0,.int .u8 0,.int .u8 0,.int .u8 0,.int .u8 0,.int .u8 2,.int .u8 17,.int .u16 9,.int .u16 53],.int .i64 0])):=by
 have h1:=JaJ [49,55,32,58,58,49,32,57,32,58,58,50,32,53,51] w (by decide) h
 rw[show Jbs (XG [49,55,32,58,58,49,32,57,32,58,58,50,32,53,51])=.tuple #[.agg #[.bool true,.int .u8 0,.int .u8 0,.int .u8 0,.int .u8 0,.int .u8 0,.int .u8 0,.int .u8 0,.int .u8 0,.int .u8 0,.int .u8 0,.int .u8 0,.int .u8 0,.int .u8 0,.int .u8 0,.int .u8 0,.int .u8 1,.bool true,.int .u8 0,.int .u8 0,.int .u8 0,.int .u8 0,.int .u8 0,.int .u8 0,.int .u8 0,.int .u8 0,.int .u8 0,.int .u8 0,.int .u8 0,.int .u8 0,.int .u8 0,.int .u8 0,.int .u8 0,.int .u8 2,.int .u8 17,.int .u16 9,.int .u16 53],.int .i64 0] by kernel_rfl] at h1
 exact h1
theorem Jna (w:World)(h:Env w):Calls Tryz.prog 22 #[.string ⟨#[54,32,49,48,46,48,46,48,46,49,32,48,53,32,49,48,46,48,46,48,46,50,32,56,48]⟩] w (Jk w (.tuple #[.agg #[.bool false,.int .u8 0,.int .u8 0,.int .u8 0,.int .u8 0,.int .u8 0,.int .u8 0,.int .u8 0,.int .u8 0,.int .u8 0,.int .u8 0,.int .u8 0,.int .u8 0,.int .u8 0,.int .u8 0,.int .u8 0,.int .u8 0,.bool false,.int .u8 0,.int .u8 0,.int .u8 0,.int .u8 0,.int .u8 0,.int .u8 0,.int .u8 0,.int .u8 0,.int .u8 0,.int .u8 0,.int .u8 0,.int .u8 0,.int .u8 0,.int .u8 0,.int .u8 0,.int .u8 0,.int .u8 0,.int .u16 0,.int .u16 0],.int .i64 40])):=by
 have h1:=JaJ [54,32,49,48,46,48,46,48,46,49,32,48,53,32,49,48,46,48,46,48,46,50,32,56,48] w (by decide) h
 rw[show Jbs (XG [54,32,49,48,46,48,46,48,46,49,32,48,53,32,49,48,46,48,46,48,46,50,32,56,48])=.tuple #[.agg #[.bool false,.int .u8 0,.int .u8 0,.int .u8 0,.int .u8 0,.int .u8 0,.int .u8 0,.int .u8 0,.int .u8 0,.int .u8 0,.int .u8 0,.int .u8 0,.int .u8 0,.int .u8 0,.int .u8 0,.int .u8 0,.int .u8 0,.bool false,.int .u8 0,.int .u8 0,.int .u8 0,.int .u8 0,.int .u8 0,.int .u8 0,.int .u8 0,.int .u8 0,.int .u8 0,.int .u8 0,.int .u8 0,.int .u8 0,.int .u8 0,.int .u8 0,.int .u8 0,.int .u8 0,.int .u8 0,.int .u16 0,.int .u16 0],.int .i64 40] by kernel_rfl] at h1
 exact h1
theorem Jnb (w:World)(h:Env w):Calls Tryz.prog 22 #[.string ⟨#[49,32,58,58,49,32,49,32,58,58,49,32,48]⟩] w (Jk w (.tuple #[.agg #[.bool false,.int .u8 0,.int .u8 0,.int .u8 0,.int .u8 0,.int .u8 0,.int .u8 0,.int .u8 0,.int .u8 0,.int .u8 0,.int .u8 0,.int .u8 0,.int .u8 0,.int .u8 0,.int .u8 0,.int .u8 0,.int .u8 0,.bool false,.int .u8 0,.int .u8 0,.int .u8 0,.int .u8 0,.int .u8 0,.int .u8 0,.int .u8 0,.int .u8 0,.int .u8 0,.int .u8 0,.int .u8 0,.int .u8 0,.int .u8 0,.int .u8 0,.int .u8 0,.int .u8 0,.int .u8 0,.int .u16 0,.int .u16 0],.int .i64 40])):=by
 have h1:=JaJ [49,32,58,58,49,32,49,32,58,58,49,32,48] w (by decide) h
 rw[show Jbs (XG [49,32,58,58,49,32,49,32,58,58,49,32,48])=.tuple #[.agg #[.bool false,.int .u8 0,.int .u8 0,.int .u8 0,.int .u8 0,.int .u8 0,.int .u8 0,.int .u8 0,.int .u8 0,.int .u8 0,.int .u8 0,.int .u8 0,.int .u8 0,.int .u8 0,.int .u8 0,.int .u8 0,.int .u8 0,.bool false,.int .u8 0,.int .u8 0,.int .u8 0,.int .u8 0,.int .u8 0,.int .u8 0,.int .u8 0,.int .u8 0,.int .u8 0,.int .u8 0,.int .u8 0,.int .u8 0,.int .u8 0,.int .u8 0,.int .u8 0,.int .u8 0,.int .u8 0,.int .u16 0,.int .u16 0],.int .i64 40] by kernel_rfl] at h1
 exact h1
def Jk4:Sp:=(⟨⟨false,(fun i=>([10,0,0,1]:List Int).getD i 0),false,(fun i=>([10,0,0,2]:List Int).getD i 0),6,5,80⟩,2,0⟩:Sp)
theorem JmY:Jha Jk4:=⟨⟨JiS _ (by decide),JiS _ (by decide),by decide,by decide,by decide⟩,by decide,by decide⟩
theorem Jnc:Q1 Jk4=0:=by decide+kernel
theorem Jnd:(spL Jk4).length=40:=by decide+kernel
theorem Jne (w:World):Calls Tryz.prog 15 #[.agg #[.bool false,.int .u8 10,.int .u8 0,.int .u8 0,.int .u8 1,.int .u8 0,.int .u8 0,.int .u8 0,.int .u8 0,.int .u8 0,.int .u8 0,.int .u8 0,.int .u8 0,.int .u8 0,.int .u8 0,.int .u8 0,.int .u8 0,.bool false,.int .u8 10,.int .u8 0,.int .u8 0,.int .u8 2,.int .u8 0,.int .u8 0,.int .u8 0,.int .u8 0,.int .u8 0,.int .u8 0,.int .u8 0,.int .u8 0,.int .u8 0,.int .u8 0,.int .u8 0,.int .u8 0,.int .u8 6,.int .u16 5,.int .u16 80,.int .u8 2,.int .i64 0]] w (Jq w (spL Jk4) 0):=by
 have h:=JbX Jk4 JmY w
 rw[Jnc] at h
 exact h
def Jlq:Sp:=(⟨⟨false,(fun i=>([10,0,0,1]:List Int).getD i 0),false,(fun i=>([10,0,0,2]:List Int).getD i 0),1,0,2048⟩,0,8⟩:Sp)
theorem JmZ:Jha Jlq:=⟨⟨JiS _ (by decide),JiS _ (by decide),by decide,by decide,by decide⟩,by decide,by decide⟩
theorem Jnf:Q1 Jlq=0:=by decide+kernel
theorem Jng:(spL Jlq).length=32:=by decide+kernel
theorem Jnh (w:World):Calls Tryz.prog 15 #[.agg #[.bool false,.int .u8 10,.int .u8 0,.int .u8 0,.int .u8 1,.int .u8 0,.int .u8 0,.int .u8 0,.int .u8 0,.int .u8 0,.int .u8 0,.int .u8 0,.int .u8 0,.int .u8 0,.int .u8 0,.int .u8 0,.int .u8 0,.bool false,.int .u8 10,.int .u8 0,.int .u8 0,.int .u8 2,.int .u8 0,.int .u8 0,.int .u8 0,.int .u8 0,.int .u8 0,.int .u8 0,.int .u8 0,.int .u8 0,.int .u8 0,.int .u8 0,.int .u8 0,.int .u8 0,.int .u8 1,.int .u16 0,.int .u16 2048,.int .u8 0,.int .i64 8]] w (Jq w (spL Jlq) 0):=by
 have h:=JbX Jlq JmZ w
 rw[Jnf] at h
 exact h
def JlY:Sp:=(⟨⟨true,(fun i=>([0,0,0,0,0,0,0,0,0,0,0,0,0,0,0,1]:List Int).getD i 0),true,(fun i=>([0,0,0,0,0,0,0,0,0,0,0,0,0,0,0,2]:List Int).getD i 0),17,9,53⟩,0,1⟩:Sp)
theorem Jm0:Jha JlY:=⟨⟨JiS _ (by decide),JiS _ (by decide),by decide,by decide,by decide⟩,by decide,by decide⟩
theorem Jni:Q1 JlY=0:=by decide+kernel
theorem Jnj:(spL JlY).length=49:=by decide+kernel
theorem Jnk (w:World):Calls Tryz.prog 15 #[.agg #[.bool true,.int .u8 0,.int .u8 0,.int .u8 0,.int .u8 0,.int .u8 0,.int .u8 0,.int .u8 0,.int .u8 0,.int .u8 0,.int .u8 0,.int .u8 0,.int .u8 0,.int .u8 0,.int .u8 0,.int .u8 0,.int .u8 1,.bool true,.int .u8 0,.int .u8 0,.int .u8 0,.int .u8 0,.int .u8 0,.int .u8 0,.int .u8 0,.int .u8 0,.int .u8 0,.int .u8 0,.int .u8 0,.int .u8 0,.int .u8 0,.int .u8 0,.int .u8 0,.int .u8 2,.int .u8 17,.int .u16 9,.int .u16 53,.int .u8 0,.int .i64 1]] w (Jq w (spL JlY) 0):=by
 have h:=JbX JlY Jm0 w
 rw[Jni] at h
 exact h
theorem JmT:(spL Jlq).getD 20 0=8:=by decide+kernel
theorem wkQ (oa:Option Addr)(cap:Nat)(w:World)(h:Jj w oa 40 cap (spL Jk4)):Calls Tryz.prog 11 #[.slice oa 40 cap] w (Jk w (.tuple #[.agg #[.bool false,.int .u8 10,.int .u8 0,.int .u8 0,.int .u8 1,.int .u8 0,.int .u8 0,.int .u8 0,.int .u8 0,.int .u8 0,.int .u8 0,.int .u8 0,.int .u8 0,.int .u8 0,.int .u8 0,.int .u8 0,.int .u8 0,.bool false,.int .u8 10,.int .u8 0,.int .u8 0,.int .u8 2,.int .u8 0,.int .u8 0,.int .u8 0,.int .u8 0,.int .u8 0,.int .u8 0,.int .u8 0,.int .u8 0,.int .u8 0,.int .u8 0,.int .u8 0,.int .u8 0,.int .u8 6,.int .u16 5,.int .u16 80,.int .i64 40,.int .u8 2,.bool false],.int .i64 0])):=by
 have h1:=JdH oa 40 cap _ w h (by decide) (by decide) (by decide+kernel)
 rw[show pkR (spL Jk4)=.tuple #[.agg #[.bool false,.int .u8 10,.int .u8 0,.int .u8 0,.int .u8 1,.int .u8 0,.int .u8 0,.int .u8 0,.int .u8 0,.int .u8 0,.int .u8 0,.int .u8 0,.int .u8 0,.int .u8 0,.int .u8 0,.int .u8 0,.int .u8 0,.bool false,.int .u8 10,.int .u8 0,.int .u8 0,.int .u8 2,.int .u8 0,.int .u8 0,.int .u8 0,.int .u8 0,.int .u8 0,.int .u8 0,.int .u8 0,.int .u8 0,.int .u8 0,.int .u8 0,.int .u8 0,.int .u8 0,.int .u8 6,.int .u16 5,.int .u16 80,.int .i64 40,.int .u8 2,.bool false],.int .i64 0] by kernel_rfl] at h1
 exact h1
def JmB (w:World)(m:Nat)(l:List Int)(err:Int):Ending→World→Prop:=fun e w'=>∃oa cap,e=.returned (.tuple #[.slice oa m cap,.int .i64 err])∧Jj w' oa m cap l∧Below w.heap.size w w'
theorem Jq.n {w:World}{m:Nat}{l:List Int}{err:Int}(hm:l.length=m)(hl:∀v∈l,0≤v∧v<256){e:Ending}{w':World}(h:Jq w l err e w'):JmB w m l err e w':=by
 subst hm
 obtain⟨oa,cap,h1,h2,h3⟩:=h
 exact⟨oa,cap,h1,h2.reads hl,h3⟩
theorem Jcs (w:World)(henv:Env w):Calls Tryz.prog 9 #[] w (Jk w (.bool true)):=by
 have HE:=Jnv henv
 clear henv
 have HP0:Hid (∀w,Calls Tryz.prog 15 #[.agg #[.bool false,.int .u8 10,.int .u8 0,.int .u8 0,.int .u8 1,.int .u8 0,.int .u8 0,.int .u8 0,.int .u8 0,.int .u8 0,.int .u8 0,.int .u8 0,.int .u8 0,.int .u8 0,.int .u8 0,.int .u8 0,.int .u8 0,.bool false,.int .u8 10,.int .u8 0,.int .u8 0,.int .u8 2,.int .u8 0,.int .u8 0,.int .u8 0,.int .u8 0,.int .u8 0,.int .u8 0,.int .u8 0,.int .u8 0,.int .u8 0,.int .u8 0,.int .u8 0,.int .u8 0,.int .u8 6,.int .u16 5,.int .u16 80,.int .u8 2,.int .i64 0]] w (JmB w 40 (spL Jk4) 0)):=Jnv fun w=>(Jne w).mono fun _ _ h=>h.n Jnd (JcX JmY)
 have HP1:Hid (∀w,Calls Tryz.prog 15 #[.agg #[.bool false,.int .u8 10,.int .u8 0,.int .u8 0,.int .u8 1,.int .u8 0,.int .u8 0,.int .u8 0,.int .u8 0,.int .u8 0,.int .u8 0,.int .u8 0,.int .u8 0,.int .u8 0,.int .u8 0,.int .u8 0,.int .u8 0,.bool false,.int .u8 10,.int .u8 0,.int .u8 0,.int .u8 2,.int .u8 0,.int .u8 0,.int .u8 0,.int .u8 0,.int .u8 0,.int .u8 0,.int .u8 0,.int .u8 0,.int .u8 0,.int .u8 0,.int .u8 0,.int .u8 0,.int .u8 1,.int .u16 0,.int .u16 2048,.int .u8 0,.int .i64 8]] w (JmB w 32 (spL Jlq) 0)):=Jnv fun w=>(Jnh w).mono fun _ _ h=>h.n Jng (JcX JmZ)
 have HP2:Hid (∀w,Calls Tryz.prog 15 #[.agg #[.bool true,.int .u8 0,.int .u8 0,.int .u8 0,.int .u8 0,.int .u8 0,.int .u8 0,.int .u8 0,.int .u8 0,.int .u8 0,.int .u8 0,.int .u8 0,.int .u8 0,.int .u8 0,.int .u8 0,.int .u8 0,.int .u8 1,.bool true,.int .u8 0,.int .u8 0,.int .u8 0,.int .u8 0,.int .u8 0,.int .u8 0,.int .u8 0,.int .u8 0,.int .u8 0,.int .u8 0,.int .u8 0,.int .u8 0,.int .u8 0,.int .u8 0,.int .u8 0,.int .u8 2,.int .u8 17,.int .u16 9,.int .u16 53,.int .u8 0,.int .i64 1]] w (JmB w 49 (spL JlY) 0)):=Jnv fun w=>(Jnk w).mono fun _ _ h=>h.n Jnj (JcX Jm0)
 have HQ:=Jnv wkQ
 have H20:=Jnv JmT
 have BX0:=Jnv (Bx.start w)
 generalize spL Jk4=L0 at*
 generalize spL Jlq=L1 at*
 generalize spL JlY=L2 at*
 go_enter Tryz.func9,Tryz.ntmps9
 go_wp2_with fail
 refine BX0.out.ret (Jm7 _ (HE.out.below BX0.out.out)) ?_
 intro u1 hb1 BU1
 have BX1:=Jnv (BU1.out.box (Jol false (10:Int) (1:Int) false (10:Int) (2:Int) (6:Int) (.int .u16 5) (.int .u16 80)) 30)
 clear hb1 BU1 BX0
 obtain⟨b1,hq1⟩:∃b,b=u1.heap.size:=⟨_,rfl⟩
 go_wp2_with fail
 rw[←hq1] at BX1⊢
 clear hq1
 generalize u1.alloc _=y1 at*
 refine Jnx (HP0.out _) ?_
 rintro e u2 ⟨o0,c0,rfl,hr2,hb2⟩
 have BX2:=Jnv (BX1.out.go hb2)
 have HL0_2:=Jnv hr2
 clear hb2 hr2 BX1
 go_wp2_with fail
 refine BX2.out.ret (HQ.out o0 c0 _ HL0_2.out) ?_
 intro u3 hb3 BU3
 have BX3:=Jnv (BU3.out.box (Joe false (10:Int) (1:Int) false (10:Int) (2:Int) (6:Int) (.int .u16 5) (.int .u16 80) (.int .i64 40) (2:Int) false) 32)
 have HL0_3:=Jnv ((HL0_2.out.below hb3).alloc (.cells (Joe false (10:Int) (1:Int) false (10:Int) (2:Int) (6:Int) (.int .u16 5) (.int .u16 80) (.int .i64 40) (2:Int) false) 32))
 clear hb3 BU3 BX2 HL0_2
 obtain⟨b5,hq3⟩:∃b,b=u3.heap.size:=⟨_,rfl⟩
 go_wp2_with fail
 rw[←hq3] at BX3⊢
 clear hq3
 generalize u3.alloc _=y3 at*
 clear HL0_3
 refine BX3.out.ret (Jm8 _ (HE.out.below BX3.out.out)) ?_
 intro u4 hb4 BU4
 have BX4:=Jnv (BU4.out.box (Jom false (10:Int) (1:Int) false (10:Int) (2:Int) (1:Int) (.int .u16 2048)) 30)
 clear hb4 BU4 BX3
 obtain⟨b7,hq4⟩:∃b,b=u4.heap.size:=⟨_,rfl⟩
 go_wp2_with fail
 rw[←hq4] at BX4⊢
 clear hq4
 generalize u4.alloc _=y4 at*
 refine Jnx (HP1.out _) ?_
 rintro e u5 ⟨o1,c1,rfl,hr5,hb5⟩
 have BX5:=Jnv (BX4.out.go hb5)
 have HL1_5:=Jnv hr5
 clear hb5 hr5 BX4
 go_wp2_with fail
 refine BX5.out.ret (Jm9 _ (HE.out.below BX5.out.out)) ?_
 intro u6 hb6 BU6
 have BX6:=Jnv (BU6.out.box (Jod true (1:Int) true (2:Int) (17:Int) (.int .u16 9) (.int .u16 53)) 30)
 have HL1_6:=Jnv ((HL1_5.out.below hb6).alloc (.cells (Jod true (1:Int) true (2:Int) (17:Int) (.int .u16 9) (.int .u16 53)) 30))
 clear hb6 BU6 BX5 HL1_5
 obtain⟨b11,hq6⟩:∃b,b=u6.heap.size:=⟨_,rfl⟩
 go_wp2_with fail
 rw[←hq6] at BX6⊢
 clear hq6
 generalize u6.alloc _=y6 at*
 refine Jnx (HP2.out _) ?_
 rintro e u7 ⟨o2,c2,rfl,hr7,hb7⟩
 have BX7:=Jnv (BX6.out.go hb7)
 have HL1_7:=Jnv (HL1_6.out.below hb7)
 clear hb7 hr7 BX6 HL1_6
 go_wp2_with fail
 refine BX7.out.ret (Jna _ (HE.out.below BX7.out.out)) ?_
 intro u8 hb8 BU8
 have BX8:=Jnv (BU8.out.box (Jn3 false false) 30)
 have HL1_8:=Jnv ((HL1_7.out.below hb8).alloc (.cells (Jn3 false false) 30))
 clear hb8 BU8 BX7 HL1_7
 obtain⟨b15,hq8⟩:∃b,b=u8.heap.size:=⟨_,rfl⟩
 go_wp2_with fail
 rw[←hq8] at BX8⊢
 clear hq8
 generalize u8.alloc _=y8 at*
 refine BX8.out.ret (Jnb _ (HE.out.below BX8.out.out)) ?_
 intro u9 hb9 BU9
 have BX9:=Jnv (BU9.out.box (Jn3 false false) 30)
 have HL1:=Jnv ((HL1_8.out.below hb9).alloc (.cells (Jn3 false false) 30))
 clear hb9 BU9 BX8 HL1_8
 obtain⟨g,off,hg,hgl,hgc⟩:=HL1.out.here (by decide)
 subst hg
 have c20:=hgc 20 (by decide)
 rw[H20.out] at c20
 have p5:=BX9.out.part (n:=40) 4 rfl rfl
 have p1:=BX9.out.part (n:=37) 5 rfl rfl
 have l5:=BX9.out.lt 4 rfl
 have l1:=BX9.out.lt 5 rfl
 clear hgc
 go_wp2_with fail
 go_ret
 exact .mk rfl BX9.out.out
end
section
open Go.RowKit
section
variable {P:Program} {ops:Array Oper} {md:Region.Mode}
def Jmt (P:Program)(ops:Array Oper)(Ψ:World→Prop)(o:Oper)(v:Value)(a:Act):Prop:=Region.wanted o (yielded ops a.tmps)=true∧∀w,Ψ w→(execOp a.eval o).run P w=.ok (.value v) w
def Jmu (G:Nat→World→Prop)(n:Nat)(Ψ:World→Prop):Nat→World→Prop:=fun g=>if g=n then Ψ else G g
theorem JiT {G:Nat→World→Prop}{top:List Nat}{k R:Nat}{C:World→Prop}{Ψ:World→Prop}(h:JfE (Jmu G top.length Ψ) (top++[R]) (k+1) C):JfE G top (k+1) C:=by
 intro g hg w hw
 have hl:g<top.length:=by
  rcases Nat.lt_or_ge g top.length with hl|hl
  ·exact hl
  ·rw[List.getD_eq_getElem?_getD,List.getElem?_eq_none hl] at hg;simp at hg
 have:=h g (by rw[List.getD_eq_getElem?_getD,List.getElem?_append_left hl,←List.getD_eq_getElem?_getD];exact hg) w hw
 unfold Jmu at this
 rwa [if_neg (by omega)] at this
theorem Jk5 {G:Nat→World→Prop}{top:List Nat}{k R:Nat}{C:World→Prop}{Ψ:World→Prop}(hk:k+1≤R)(h:JfE (Jmu G top.length Ψ) (top++[R]) (k+1) C):∀w,C w→Ψ w:=by
 intro w hw
 have:=h top.length (by rw[List.getD_eq_getElem?_getD,List.getElem?_append_right (JnA _)];simpa using hk) w hw
 unfold Jmu at this
 rwa [if_pos rfl] at this
theorem Jc0 {hd sq:List Nat}{f:Nat}{ob:Obj}{G G':Nat→World→Prop}{top top':List Nat}{Q:Exit→Act→World→Prop}(hK:∀k C,JfE G' top' (k+1) C→JfE G top (k+1) C):
 ∀(n k:Nat) (C:FC) (fl:Option Nat) (listed:Array Bool) (a:Act),wpZ P md ops hd sq f ob G' top' Q n k C fl listed a→wpZ P md ops hd sq f ob G top Q n k C fl listed a
 |0,k,C,fl,listed,a,h=>h
 |n+1,k,C,fl,listed,a,h=>by
  refine⟨h.1,fun i hi oi hoi=>?_⟩
  rcases h.2 i hi oi hoi with ⟨h1,v,h2,h3⟩|⟨h1,C',h2,h3,h4⟩|⟨h1,h2,h3,h4,h5,h6⟩
  ·exact .inl ⟨h1,v,h2,Jc0 hK n _ _ _ _ _ h3⟩
  ·exact .inr (.inl ⟨h1,C',h2,fun v fl=>hK _ _ (h3 v fl),fun v hv=>Jc0 hK n _ _ _ _ _ (h4 v hv)⟩)
  ·exact .inr (.inr ⟨h1,h2,h3,h4,h5,fun b=>Jc0 hK n _ _ _ _ _ (h6 b)⟩)
def JdI (P:Program)(ops:Array Oper)(R:Nat)(E:FC→Act→Prop):List (Kd×Oper)→(Nat→World→Prop)→List Nat→Nat→FC→Act→Prop
 |[],_,_,_,C,a=>E C a
 |(.w,o)::rest,G,top,k,C,a=>∃C':Value→FC,(Jv P ops (C none) (fun v w=>C' v none w) o a)∧(∀v fl,JfE G top (k+1) (C' v fl))∧∀v,(∃w,C' v none w)→JdI P ops R E rest G top (k+1) (C' v) (a.put o.dst v)
 |(.c,o)::rest,G,top,k,C,a=>∃(v:Value) (Ψ:World→Prop),Jmt P ops Ψ o v a∧(∀fl w,C fl w→Ψ w)∧JdI P ops R E rest (Jmu G top.length Ψ) (top++[R]) k C (a.put o.dst v)
 |(_,o)::rest,G,top,k,C,a=>∃v,Jaz P ops o v a∧JdI P ops R E rest G top k C (a.put o.dst v)
def JfA (md:Region.Mode)(ops:Array Oper):List (Kd×Nat)→Array Bool→Bool
 |[],_=>true
 |(.w,i)::r,listed=>decide (Region.ready md ops listed=[i])&&JfA md ops r (listed.setIfInBounds i true)
 |(.q,i)::r,listed=>(Region.ready md ops listed).contains i&&(Region.free md ops listed i&&JfA md ops r (listed.setIfInBounds i true))
 |(.c,i)::r,listed=>(Region.ready md ops listed).contains i&&(Region.free md ops listed i&&JfA md ops r (listed.setIfInBounds i true))
 |_,_=>false
def Jbe:List (Kd×Nat)→List Nat
 |[]=>[]
 |(.q,i)::r=>i::Jbe r
 |(.c,i)::r=>i::Jbe r
 |_::r=>Jbe r
theorem Jer:∀(is:List (Kd×Nat)) (p:Kd×Nat),p∈is→(p.1=.q∨p.1=.c)→p.2∈Jbe is
 |(kd,i)::r,p,h,hk=>by
  rcases List.mem_cons.1 h with rfl|h
  ·simp only at hk
   rcases hk with rfl|rfl<;>simp[Jbe]
  ·have:=Jer r p h hk
   cases kd<;>simp only[Jbe]<;>first|exact this|exact List.mem_cons_of_mem _ this
theorem JbZ {hd sq:List Nat}{f:Nat}{ob:Obj}{Q:Exit→Act→World→Prop}{R:Nat}{E:FC→Act→Prop}{m:Nat}(hR:sq.length≤R)
 (hsel:∀(j:Nat) (o:Oper) cs b,ops[j]? =some o→o.op≠ .select cs b)(once:∀k k' t:Nat,sq[k]? =some t→sq[k']? =some t→k=k')(hap:∀j∈hd,j∉sq):
 ∀(l:List (Kd×Oper)) (is:List (Kd×Nat)) (G:Nat→World→Prop) (top:List Nat) (k:Nat) (C:FC) (listed:Array Bool) (a:Act),is.map (fun p=>ops[p.2]?)=l.map (fun p=>some p.2)→is.map (·.1)=l.map (·.1)→(∀p∈is,(p.1=.q∨p.1=.c)→p.2∈hd)→(∀j t,(QO is)[j]? =some t→sq[k+j]? =some t)→Qn md ops sq k listed→
 JfA md ops is listed=true→(∀G' top' k' C' a',E C' a'→Qn md ops sq k' (XC is listed)→wpZ P md ops hd sq f ob G' top' Q m k' C' none (XC is listed) a')→
 JdI P ops R E l G top k C a→wpZ P md ops hd sq f ob G top Q (l.length+m) k C none listed a
 |[],is,G,top,k,C,listed,a,h1,_,_,_,inv,_,hE,h=>by
  cases is with
  |cons i is=>cases h1
  |nil=>rw[List.length_nil,Nat.zero_add];exact hE G top k C a h inv
 |(kk,o)::l,is,G,top,k,C,listed,a,h1,h2,h3,h4,inv,hB,hE,h=>by
  cases is with
  |nil=>cases h1
  |cons q is=>
   obtain⟨kd,i⟩:=q
   simp only[List.map_cons,List.cons.injEq] at h1 h2
   obtain⟨rfl,h2⟩:=h2
   have ha:i∈Region.ready md ops listed:=by
    cases kd<;>simp only[JfA,Bool.and_eq_true,decide_eq_true_eq] at hB
    ·cases hB
    ·simpa using hB.1
    ·rw[hB.1];simp
    ·simpa using hB.1
    ·cases hB
   rw[show((kd,o)::l).length+m=(l.length+m)+1 by simp only[List.length_cons];omega]
   cases kd with
   |h=>cases hB
   |f=>cases hB
   |q=>
    simp only[JfA,Bool.and_eq_true] at hB
    obtain⟨v,hv,hk⟩:=h
    have hin:=h3 (.q,i) (by simp) (.inl rfl)
    refine Jay (a0:=a) h1.1 hsel once hap hin (fun _ _=>True) (fun _ _ _ fl a' e1 e2=>(hv.of_same e1 e2).yields _) (fun _ _ _ _ _ _ _ _ _ _ _=>trivial) (l.length+m) k C none listed a trivial inv (Region.free_spec h1.1 hB.2.1) ha rfl rfl ?_
    exact JbZ hR hsel once hap l is G top k C _ _ h1.2 h2 (fun p hp=>h3 p (by simp[hp])) (fun j t ht=>h4 j t ht) (inv.other ha (hap i hin)) hB.2.2 hE hk
   |c=>
    simp only[JfA,Bool.and_eq_true] at hB
    obtain⟨v,Ψ,hv,hC,hk⟩:=h
    have hin:=h3 (.c,i) (by simp) (.inr rfl)
    refine Jc0 (fun k C=>JiT (R:=R) (Ψ:=Ψ)) _ _ _ _ _ _ ?_
    refine Jay (a0:=a) h1.1 hsel once hap hin (fun _ C=>∀fl w,C fl w→Ψ w) (fun _ C hc fl a' e1 e2=>Jav (by rw[e2];exact hv.1) (fun w hw=>by rw[e1];exact hv.2 w (hc fl w hw))) (fun k1 C1 C2 listed' j _ _ _ _ hj hkept fl w hw=>?_) (l.length+m) k C none listed a hC inv (Region.free_spec h1.1 hB.2.1) ha rfl rfl ?_
    ·exact Jk5 (Nat.le_trans (List.getElem?_eq_some_iff.1 hj).1 hR) (hkept fl) w hw
    exact JbZ hR hsel once hap l is _ _ k C _ _ h1.2 h2 (fun p hp=>h3 p (by simp[hp])) (fun j t ht=>h4 j t ht) (inv.other ha (hap i hin)) hB.2.2 hE hk
   |w=>
    simp only[JfA,Bool.and_eq_true,decide_eq_true_eq] at hB
    obtain⟨C',e1,e2,e4⟩:=h
    have hk0:sq[k]? =some i:=h4 0 i rfl
    refine⟨by rw[hB.1];simp,fun j hj oj hoj=>?_⟩
    rw[hB.1] at hj
    obtain rfl:j=i:=by simpa using hj
    obtain rfl:o=oj:=Option.some.inj (h1.1.symm.trans hoj)
    refine .inr (.inl ⟨hk0,C',e1,e2,fun v hv=>?_⟩)
    exact JbZ hR hsel once hap l is G top (k+1) (C' v) _ _ h1.2 h2 (fun p hp=>h3 p (by simp[hp])) (fun j t ht=>by have:=h4 (j+1) t (by simpa[QO] using ht);rwa [show k+(j+1)=k+1+j by omega] at this) (inv.row2 once ha hk0) hB.2 hE (e4 v hv)
def srB (l:List Oper)(hs:List Nat)(lates:List (Nat×Nat×Nat))(top:List Nat)(os:List Oper)(s:List (Kd×Nat)):Bool:=
 let late:=fun i=>((lates.lookup i).map (·.1)).getD 0
 let grp:=fun i=>((lates.lookup i).map (·.2)).getD 0
 let sq:=QO s
 let hd:=hs++Jbe s
 let L:=QG hs (Array.replicate l.toArray.size false)
 Region.noSelect l.toArray&&(Jl5 .any l.toArray hs sq late&&(hs.all (fun i=>decide (late i≤top.getD (grp i) 0))&&(Jag .any l.toArray hs (Array.replicate l.toArray.size false)&&(Z1 l.toArray os&&
  (hd.all (fun i=>!sq.contains i)&&(s.all (fun p=>decide (p.2<l.length))&&(JfA .any l.toArray s L&&(decide (Region.ready .any l.toArray (XC s L)=[])&&decide (hs.length+s.length=l.length)))))))))
theorem JcF {id:Nat}{Q:Exit→Act→World→Prop}{a:Act}{w:World}{l:List Oper}(ms:List Kd)(lates:List (Nat×Nat×Nat))(G:Nat→World→Prop)(top:List Nat)(s:List (Kd×Nat))(hm:P.follows .mixedOrders=true)(hms0:Nat.ble ms.length l.length=true)
 (hB:srB l (JV ms 0) lates top (Ju ms l) s=true)(hd:Ja3 a.tmps.size (Ju ms l)=true)
 (h:∃aF:Act,(∀w1,Below w.heap.size w w1→wpQuiet P l.toArray (fun w'=>∃x:JC w1,w'=x.world) (fun a'=>a'=aF) (Ju ms l) a)∧
   (∀p∈lates,∀oi,l[p.1]? =some oi→Jef P l.toArray (G p.2.2) oi aF)∧
   JdI P l.toArray (QO s).length (fun C a''=>∀w',C none w'→Q .normal a'' w') (JY l s) G top 0 (ZN w (.cells #[] 0)) aF):(Code.region id l.toArray true).wp P Q a w:=by
 have hms:ms.length≤l.length:=Nat.le_of_ble_eq_true hms0
 obtain⟨aF,H,hlate,hrun⟩:=h
 simp only[srB,Bool.and_eq_true,decide_eq_true_eq,List.all_eq_true] at hB
 obtain⟨hsel,hrow,hgrp,hheads,hon,hap,hs1,hp1,hend,hlen⟩:=hB
 have sh:=JcR hrow
 have hap':∀j∈JV ms 0++Jbe s,j∉QO s:=fun j hj hc=>by
  have:=hap j hj
  rw[List.contains_iff_mem.2 hc] at this;cases this
 have hmap1:(JV ms 0).map (fun i=>l.toArray[i]?)=(Ju ms l).map some:=by
  have:=Zb (l0:=l) ms 0 (by omega)
  simpa using this
 obtain⟨m1,k1⟩:=JaB (l:=l) s (List.all_eq_true.2 fun p hp=>by simpa using hs1 p hp)
 have l1:s.length=(JY l s).length:=by have:=congrArg List.length m1;simpa using this
 have inv0:Qn .any l.toArray (QO s) 0 (Array.replicate l.toArray.size false):=
  ⟨by simp,fun j oj _ hl=>(by rw[getD_replicate_false] at hl;cases hl),fun k' t _ hs=>by
    refine getD_in ?_ (getD_replicate_false _ _)
    obtain⟨p,hp,rfl⟩:=Jfk _ t (List.mem_of_getElem? hs)
    simpa using hs1 p hp,fun k' t hk hs=>by omega⟩
 have HZ:=fun hinv=>JbZ (P:=P) (md:=.any) (ops:=l.toArray) (f:=l.length) (m:=0) (hd:=JV ms 0++Jbe s) (sq:=QO s) (Q:=Q) (ob:=.cells #[] 0) (R:=(QO s).length) (E:=fun C a''=>∀w',C none w'→Q .normal a'' w') (JnA _) (Region.noSelect_spec hsel) sh.once hap' (JY l s) s G top 0 (ZN w (.cells #[] 0)) (QG (JV ms 0) (Array.replicate l.toArray.size false)) aF (by simpa using m1) k1
  (fun p hp hq=>List.mem_append.2 (.inr (Jer _ p hp hq))) (fun j t h=>by rw[Nat.zero_add];exact h) hinv hp1 (fun G2 top2 k2 C2 a2 hE2 _=>⟨hend,hE2⟩) hrun
 have HF:=JcS (md:=.any) (hd:=JV ms 0++Jbe s) (f:=l.length) (ob:=.cells #[] 0) (w0:=w) (fl:=none) (r:=(JY l s).length+0) (late:=fun i=>((lates.lookup i).map (·.1)).getD 0) (grp:=fun i=>((lates.lookup i).map (·.2)).getD 0) (Q:=Q) hsel sh
  (fun i hi=>List.mem_append.2 (.inl hi)) hap' hgrp
  (fun i hi oi hoi hpos=>by
    cases hlk:lates.lookup i with
    |none=>rw[hlk] at hpos;simp at hpos
    |some m=>
     have hmem:=Zi lates i m hlk
     have:=hlate (i,m) hmem oi (by simpa using hoi)
     simpa[hlk] using this)
  (JV ms 0) (Ju ms l) _ a hmap1 (fun i hi=>hi) inv0 hd hon hheads HZ H
 refine wp_region_any hm ?_
 have:=Xr (Q':=Q) _ 0 _ none _ _ _ ⟨⟨⟨_,(Jny w.heap.size w).drew⟩,rfl⟩,fun b hb=>by cases hb⟩ HF
 rw[show(JV ms 0).length+((JY l s).length+0)=l.toArray.size by simp only[List.size_toArray];omega] at this
 exact this
end
end
section
open Go.RowKit Bits
theorem JiU (oa:Option Addr)(n cap:Nat)(l:List Int)(w:World)(hr:Jj w oa n cap l)(hn1:0<n)(hn2:n≤2048)(hk:l.getD 0 0/16=6):
 Calls Tryz.prog 11 #[.slice oa n cap] w (Jk w (pkR l)):=by
 obtain⟨g,off,rfl,hgl,hcs⟩:=hr.here hn1
 have hc0:=hcs 0 hn1
 have hx0:=Qr hr.byte 0
 rw[Nat.add_zero] at hc0
 obtain⟨x0,e0⟩:∃x:Nat,l.getD 0 0=(x:Int):=⟨(l.getD 0 0).toNat,by omega⟩
 have HE0:=Jnv e0
 rw[e0] at hc0 hx0 hk
 have hd:decide ((n:Int)>2048)=false:=by simp;omega
 have hd2:((n:Int)==0)=false:=by simp;omega
 have hn0:(0:Int)<(n:Int):=by omega
 have hlen:=hr.len
 have hx:=heap_alloc_new w (.cells JaM 32)
 have hB:Below w.heap.size w (w.alloc (.cells JaM 32)):=Below.all (Jny _ _) _
 have HR:=Jnv (hr.alloc (.cells JaM 32))
 have HBY:=Jnv hr.byte
 unfold JaM at hx hB HR
 clear hr
 have hcy:=(Jg hB hgl (⟨g,off,none⟩:Addr) rfl).trans hc0
 have hgy:g<(w.alloc (.cells (Jn1 false false (.int .i64 0) false) 32)).heap.size:=Jnz hgl hB.size
 have HLK:Hid (∀r w',w'.heap[r]? =some (.map XZ 2)→(Instr.lookup 81 (.map (some r)) (.int .u8 6) true).run Tryz.prog w'=.ok (.tuple #[.agg #[.func (.func 80) #[] #[]],true]) w'):=Jnv (fun r w' h=>Jd2 r w' h)
 clear hcs e0 hc0
 go_enter Tryz.func11,Tryz.ntmps11
 go_wp2_with fail
 obtain⟨b0,hb0⟩:∃b,b=w.heap.size:=⟨_,rfl⟩
 rw[←hb0] at hx⊢
 have HB0:=Jnv hb0
 clear hb0
 generalize w.alloc (.cells (Jn1 false false (.int .i64 0) false) 32)=y at*
 have hb0y:b0<y.heap.size:=(Jnw hx).1
 have HX:=Jnv hx
 have HB:=Jnv hB
 clear hx hB
 refine JG [.w,.h,.h,.h,.h] [(1,1,0),(2,1,0),(3,1,0),(4,1,0)] (fun _ w'=>w'.cell? ⟨g,off,none⟩=some (.int .u8 (x0:Int))) [1] [(.w,0),(.w,5),(.q,6),(.q,7),(.q,8)] [(.w,10),(.q,11)] 9 (.cells #[.nilFunc] 79) (by kernel_rfl) (by kernel_rfl) rfl rfl ⟨fun _=>rfl,fun _ _=>by kernel_rfl⟩ (by kernel_rfl) (by kernel_rfl) ?_
 apply Exists.intro
 refine⟨fun wx hbx=>?_,?_,?_⟩
 ·have hcx:wx.cell? ⟨g,off,none⟩=some (.int .u8 (x0:Int)):=(Jg hbx hgy _ rfl).trans hcy
  have hbx2:g<wx.heap.size:=Jnz hgy hbx.size
  simp only[Ju]
  repeat go_big_quiet_step (fail)
  exact wpQuiet_nil rfl
 ·intro q hq oi hoi
  simp only[List.mem_cons,List.not_mem_nil,or_false] at hq
  rcases hq with rfl|rfl|rfl|rfl
  ·cases hoi;exact⟨_,rfl,rfl,fun w2 hw=>by kernel_rfl⟩
  ·cases hoi;exact⟨_,rfl,rfl,fun w2 hw=>by simp[execOp,go_sem,hn0];intro h;exfalso;omega⟩
  ·cases hoi;exact⟨_,rfl,rfl,fun w2 hw=>by simp[execOp,go_sem,hw]⟩
  ·cases hoi;exact⟨_,rfl,rfl,fun w2 hw=>by simp[execOp,go_sem,hw,hk]⟩
 simp only[JY,List.getElem?_cons_succ,List.getElem?_cons_zero]
 refine⟨fun v fl w2=>∃r,v=.map (some r)∧JiR y r fl w2,?_,?_,?_,?_⟩
 ·rintro fl-
  refine⟨rfl,fun w' hw'=>.inr ⟨34,#[],by kernel_rfl,?_⟩⟩
  obtain⟨⟨x,rfl⟩,hfb⟩:=hw'
  refine(JaI x.world).mono ?_
  rintro e w2 ⟨r,rfl,hr1,hr2,hb2⟩
  refine⟨_,rfl,r,rfl,Jno x.below hb2,Nat.le_trans x.below.size hr1,hr2,fun b hb'=>⟨(hfb b hb').1,?_⟩⟩
  have:=(hfb b hb').2
  exact(hb2.block b (Jnw this).1).trans this
 ·rintro v fl g'-w2 ⟨r,-,hst⟩
  exact(Jg hst.1 hgy _ rfl).trans hcy
 ·rintro-v w2 ⟨r,rfl,h1,h2,h3,-⟩
  exact⟨r,rfl,Below.all h1 _,h2,(heap_alloc_old _ _ (Jnw h3).1).trans h3,fun b hb'=>by cases hb';exact⟨h1.size,heap_alloc_new _ _⟩⟩
 rintro v ⟨fl0,w20,r,rfl,-⟩
 refine⟨fun v fl w2=>v=.tuple #[.agg #[.func (.func 80) #[] #[]],true]∧JiR y r fl w2,?_,fun _ _=>Jz rfl,?_,?_⟩
 ·rintro fl-
  refine Jv.made rfl ?_
  rintro w' ⟨r',hr',hst⟩
  cases hr'
  exact⟨.tuple #[.agg #[.func (.func 80) #[] #[]],true],w',QH _ _ (vm:=.map (some r)) (vx:=.int .u8 6) (by kernel_rfl) (by kernel_rfl) (HLK.out r w' hst.2.2.1),rfl,hst⟩
 ·rintro-v w2 ⟨h0,h1,h2,h3,-⟩
  exact⟨h0,Below.all h1 _,h2,(heap_alloc_old _ _ (Jnw h3).1).trans h3,fun b hb'=>by cases hb';exact⟨h1.size,heap_alloc_new _ _⟩⟩
 rintro v ⟨fl1,w21,rfl,-⟩
 refine⟨.tuple #[.agg #[.func (.func 80) #[] #[]],true],⟨rfl,fun _=>by kernel_rfl⟩,?_⟩
 refine⟨.agg #[.func (.func 80) #[] #[]],⟨rfl,fun _=>by kernel_rfl⟩,?_⟩
 refine⟨.bool true,⟨rfl,fun _=>by kernel_rfl⟩,?_⟩
 intro bp
 refine⟨fun v fl w2=>v=undef∧Below y.heap.size y w2∧y.heap.size≤bp∧w2.heap[bp]? =some (.cells #[.func (.func 80) #[] #[]] 79 (0,0)),?_,fun _ _=>Jz rfl,(fun h=>by cases h),?_⟩
 ·rintro fl rfl
  refine Jv.skip rfl ?_
  rintro w' ⟨-,hst⟩
  obtain⟨hbge,hbx⟩:=hst.2.2.2 bp rfl
  have q1:=cell_of_row _ _ 0 _ _ (0,0) hbx
  have q2:=frozen_of_row _ _ 0 _ _ hbx
  refine⟨_,?_,hst.1.setCell (p:=⟨bp,0,none⟩) hbge (.func (.func 80) #[] #[]),hbge,(heap_setCell_same _ bp 0 _ _ (.func (.func 80) #[] #[]) hbx).trans rfl⟩
  simp[execOp,go_sem,QQ,q1,q2]
 rintro v ⟨fl2,w22,rfl,-⟩
 refine⟨.bool true,⟨rfl,fun _=>by kernel_rfl⟩,?_⟩
 rintro zz ⟨-,hzz,hbge,hpz⟩
 have HZ:=Jnv (Jno HB.out hzz)
 have HXZ:=Jnv ((hzz.block b0 hb0y).trans HX.out)
 have HRZ:=Jnv (HR.out.below hzz)
 have HPZ:=Jnv hpz
 have hb0z:b0<zz.heap.size:=Jnz hb0y hzz.size
 have hne:bp≠b0:=by omega
 have hrf:Jl zz b0 40=true:=by rw[Jd _ _ _ _ _ HXZ.out];rfl
 clear hzz hpz hbge hcy hgy hb0y w20 w21 w22 fl0 fl1 fl2 HX HB HR HLK
 unfold QQ
 simp only[Act.put,List.setIfInBounds_toArray,List.set_cons_succ,List.set_cons_zero]
 have c0:=cell_of_row _ _ 0 _ _ (0,0) HPZ.out
 have lp:bp<zz.heap.size:=(Jnw HPZ.out).1
 have HER:Hid (Qu l=if JE l≠0 then JE l else (Ja6 (QE l)).err):=Jnv (by unfold Qu;rw[if_neg (by omega),if_neg (by omega),HE0.out,hk];rw[if_neg (by decide),if_pos rfl])
 have HOF:Hid (Qu l=0→JiW l=Jig (QE l) (Ja6 (QE l))):=Jnv (fun h=>by unfold JiW;rw[h,if_neg (by decide),HE0.out,hk];rfl)
 clear hk
 go_wp2_with fail
 refine Jnx (Jk1 _ _ _ _ _ HRZ.out (by omega)) ?_
 rintro e z1 (⟨h0,rfl,hb⟩|⟨h0,ob,cb,rfl,ho,hb⟩)
 ·have HE:=Jnv (XP (l:=l) (err:=JE l) (by rw[HER.out,if_pos h0]) h0)
  have hne0:(JE l==0)=false:=by simpa using h0
  have hne1:(JE l != 0)=true:=by simpa using h0
  have HB1:=Jnv (Jno HZ.out hb)
  have HX1:=Jnv ((hb.block b0 hb0z).trans HXZ.out)
  have hb01:b0<z1.heap.size:=Jnz hb0z hb.size
  clear hb h0 HZ HXZ HRZ HPZ c0 lp hrf HER HOF
  generalize JE l=er at*
  unfold Jcr
  go_wp2_with fail
  have hxo:=heap_alloc_new z1 (.cells (Jn0 false false (.int .i64 0) false false) 85)
  have hbo:Below z1.heap.size z1 (z1.alloc (.cells (Jn0 false false (.int .i64 0) false false) 85)):=Below.all (Jny _ _) _
  generalize z1.alloc (.cells (Jn0 false false (.int .i64 0) false false) 85)=z2 at*
  have HX2:=Jnv ((hbo.block b0 hb01).trans HX1.out)
  have HB2:=Jnv (Jno HB1.out hbo)
  obtain⟨bo,hboe⟩:∃b,b=z1.heap.size:=⟨_,rfl⟩
  rw[←hboe] at hxo⊢
  have HO2:=Jnv hxo
  clear hxo hbo HX1 HB1 hboe hb01
  refine Jnx (Xg 0 _) ?_
  rintro e z3 ⟨rfl,hb3⟩
  rw[show JW 0=false from rfl]
  have HX3:=Jnv ((hb3.block b0 (Jnw HX2.out).1).trans HX2.out)
  have HO3:=Jnv ((hb3.block bo (Jnw HO2.out).1).trans HO2.out)
  have HB3:=Jnv (Jno HB2.out hb3)
  have lo3:bo<z3.heap.size:=(Jnw HO3.out).1
  have c34:=cell_of_row _ _ 34 _ _ (0,0) HO3.out
  clear hb3 HX2 HO2 HB2
  go_wp2_with fail
  refine Jnx (QJ 0 _) ?_
  rintro e z4 ⟨rfl,hb4⟩
  rw[show JU 0=false from rfl]
  have HX4:=Jnv ((hb4.block b0 (Jnw HX3.out).1).trans HX3.out)
  have HB4:=Jnv (Jno HB3.out hb4)
  have hrf:Jl z4 b0 40=true:=by rw[Jd _ _ _ _ _ HX4.out];rfl
  clear hb4 HX3 HB3 HO3 c34 lo3
  go_wp2_with fail
  exact Qb (cs:=JaM) b0 rfl rfl (Jb (Jh HX4.out) rfl) rfl HE.out (HB4.out.trans (Jf _ (Nat.le_of_eq HB0.out.symm)))
 have HOUT:Hid (QE l=⟨true,(QE l).src,(QE l).dst,(QE l).proto,(QE l).len,(QE l).frag,(QE l).more,(QE l).body⟩):=Jnv rfl
 have HBB:=Jnv (Jk2 (l:=l) HBY.out)
 have HBL:=Jnv (JlX l)
 have hER2:Qu l=(Ja6 (QE l)).err:=by rw[HER.out,if_neg (by rw[h0];decide)]
 have HER2:=Jnv hER2
 have HB1:=Jnv (Jno HZ.out hb)
 have HX1:=Jnv ((hb.block b0 hb0z).trans HXZ.out)
 have hb01:b0<z1.heap.size:=Jnz hb0z hb.size
 have HLO:=Jnv (fun a (ha:ob=some a)=>(ho.lt ha))
 have HOW:=Jnv ho
 clear hb h0 HZ HXZ HRZ HPZ c0 lp hrf hER2 HER ho hb0z
 unfold JmS
 generalize QE l=O at*
 obtain⟨o6,S,D,p,ln,fr,mo,L⟩:=O
 simp only at HOUT HBB HBL HER2 HOF HOW⊢
 obtain rfl:o6=true:=congrArg Jb8.six HOUT.out
 have HRB:=Jnv (HOW.out.reads HBB.out)
 obtain⟨nb,hnb⟩:∃n,L.length=n:=⟨_,rfl⟩
 have HNB:=Jnv hnb
 rw[hnb] at HRB HBL⊢
 clear hnb HOW HOUT
 go_wp2_with fail
 have hxo:=heap_alloc_new z1 (.cells (JnY true true p (.int .i64 ln) fr (.slice ob nb cb) mo S D) 85)
 have hbo:Below z1.heap.size z1 (z1.alloc (.cells (JnY true true p (.int .i64 ln) fr (.slice ob nb cb) mo S D) 85)):=Below.all (Jny _ _) _
 generalize z1.alloc (.cells (JnY true true p (.int .i64 ln) fr (.slice ob nb cb) mo S D) 85)=z2 at*
 have HX2:=Jnv ((hbo.block b0 hb01).trans HX1.out)
 have HB2:=Jnv (Jno HB1.out hbo)
 have HR2:=Jnv (HRB.out.below hbo)
 obtain⟨bo,hboe⟩:∃b,b=z1.heap.size:=⟨_,rfl⟩
 rw[←hboe] at hxo⊢
 have HO2:=Jnv hxo
 have HNE:Hid ((∀a,ob=some a→a.block≠bo)∧bo≠b0):=Jnv ⟨fun a ha=>by have:=(HLO.out a ha).2;omega,by omega⟩
 have HLB:Hid (w.heap.size≤bo):=Jnv (by rw[hboe];exact HB1.out.size)
 clear hxo hbo HX1 HB1 hboe hb01 HLO HRB hne
 refine Jnx (Xg p _) ?_
 rintro e z3 ⟨rfl,hb3⟩
 have HX3:=Jnv ((hb3.block b0 (Jnw HX2.out).1).trans HX2.out)
 have HO3:=Jnv ((hb3.block bo (Jnw HO2.out).1).trans HO2.out)
 have HB3:=Jnv (Jno HB2.out hb3)
 have HR3:=Jnv (HR2.out.below hb3)
 clear hb3 HX2 HO2 HB2 HR2
 have HPI:Hid ((JW p=true→p=6∨p=17∨p=1∨p=58)∧(JU p=true→p=6∨p=17∨p=1∨p=58)):=Jnv ⟨fun h=>by unfold JW at h;simp at h;omega,fun h=>by unfold JU at h;simp at h;omega⟩
 have HUP:Hid (Ja6 ⟨true,S,D,p,ln,fr,mo,L⟩=if (JW p||JU p)&&!fr then (if mo then Jy p L else Jw p L) else ⟨0,0,0,0⟩):=Jnv rfl
 have HIC:Hid (∀w',Calls Tryz.prog 36 #[p] w' (Jk w' (.bool (JU p)))):=Jnv (fun w'=>QJ p w')
 obtain⟨P1,hP1⟩:∃b,JW p=b:=⟨_,rfl⟩
 obtain⟨I1,hI1⟩:∃b,JU p=b:=⟨_,rfl⟩
 rw[hP1,hI1] at HUP HPI
 rw[hI1] at HIC
 rw[hP1]
 clear hP1 hI1
 cases P1
 ·cases I1
  ·skip
   have lo3:bo<z3.heap.size:=(Jnw HO3.out).1
   have c34:=cell_of_row _ _ 34 _ _ (0,0) HO3.out
   have c39:=cell_of_row _ _ 39 _ _ (0,0) HO3.out
   have c41:=cell_of_row _ _ 41 _ _ (0,0) HO3.out
   have hU:Ja6 ⟨true,S,D,p,ln,fr,mo,L⟩=⟨0,0,0,0⟩:=by rw[HUP.out];rfl
   have hE:Qu l=0:=by rw[HER2.out,hU]
   have HV:Hid (pkR l=.tuple #[.agg #[.bool true,.int .u8 (S 0),.int .u8 (S 1),.int .u8 (S 2),.int .u8 (S 3),.int .u8 (S 4),.int .u8 (S 5),.int .u8 (S 6),.int .u8 (S 7),.int .u8 (S 8),.int .u8 (S 9),.int .u8 (S 10),.int .u8 (S 11),.int .u8 (S 12),.int .u8 (S 13),.int .u8 (S 14),.int .u8 (S 15),.bool true,.int .u8 (D 0),.int .u8 (D 1),.int .u8 (D 2),.int .u8 (D 3),.int .u8 (D 4),.int .u8 (D 5),.int .u8 (D 6),.int .u8 (D 7),.int .u8 (D 8),.int .u8 (D 9),.int .u8 (D 10),.int .u8 (D 11),.int .u8 (D 12),.int .u8 (D 13),.int .u8 (D 14),.int .u8 (D 15),.int .u8 p,.int .u16 0,.int .u16 0,.int .i64 ln,.int .u8 0,.bool fr],.int .i64 0]):=Jnv (by unfold pkR;rw[hE,HOF.out hE,hU];rfl)
   clear hU hE HUP HER2 HOF
   clear c39 c41
   go_wp2_with fail
   refine Jnx (HIC.out _) ?_
   rintro e z4 ⟨rfl,hb4⟩
   have HX4:=Jnv ((hb4.block b0 (Jnw HX3.out).1).trans HX3.out)
   have HO4:=Jnv ((hb4.block bo (Jnw HO3.out).1).trans HO3.out)
   have HB4:=Jnv (Jno HB3.out hb4)
   have HR4:=Jnv (HR3.out.below hb4)
   clear hb4 c34 lo3 HX3 HO3 HB3 HR3
   have lo4:bo<z4.heap.size:=(Jnw HO4.out).1
   have c39:=cell_of_row _ _ 39 _ _ (0,0) HO4.out
   have c41:=cell_of_row _ _ 41 _ _ (0,0) HO4.out
   have hpt:Jc z4 bo 0 40=(JnL true true p (.int .i64 ln) fr S D:Array Value):=Qf (a:=(JnL true true p (.int .i64 ln) fr S D)) (c:=#[.slice ob nb cb,mo]) HO4.out rfl
   have hrf:Jl z4 b0 40=true:=by rw[Jd _ _ _ _ _ HX4.out];rfl
   go_wp2_with fail
   exact Qb (cs:=(JnL true true p (.int .i64 ln) fr S D)) b0 rfl rfl (Jb (Jh HX4.out) rfl) rfl HV.out (HB4.out.trans (Jf _ (Nat.le_of_eq HB0.out.symm)))
  ·cases fr
   ·cases mo
    ·skip
     have lo3:bo<z3.heap.size:=(Jnw HO3.out).1
     have c34:=cell_of_row _ _ 34 _ _ (0,0) HO3.out
     have c39:=cell_of_row _ _ 39 _ _ (0,0) HO3.out
     have c41:=cell_of_row _ _ 41 _ _ (0,0) HO3.out
     clear c39 c41
     go_wp2_with fail
     refine Jnx (HIC.out _) ?_
     rintro e z4 ⟨rfl,hb4⟩
     have HX4:=Jnv ((hb4.block b0 (Jnw HX3.out).1).trans HX3.out)
     have HO4:=Jnv ((hb4.block bo (Jnw HO3.out).1).trans HO3.out)
     have HB4:=Jnv (Jno HB3.out hb4)
     have HR4:=Jnv (HR3.out.below hb4)
     clear hb4 c34 lo3 HX3 HO3 HB3 HR3
     have lo4:bo<z4.heap.size:=(Jnw HO4.out).1
     have c39:=cell_of_row _ _ 39 _ _ (0,0) HO4.out
     have c41:=cell_of_row _ _ 41 _ _ (0,0) HO4.out
     have hU:Ja6 ⟨true,S,D,p,ln,false,false,L⟩=Jw p L:=by rw[HUP.out];rfl
     have hE:Qu l=(Jw p L).err:=by rw[HER2.out,hU]
     have HE2:=Jnv hE
     have HV:Hid (Qu l=0→pkR l=.tuple #[.agg #[.bool true,.int .u8 (S 0),.int .u8 (S 1),.int .u8 (S 2),.int .u8 (S 3),.int .u8 (S 4),.int .u8 (S 5),.int .u8 (S 6),.int .u8 (S 7),.int .u8 (S 8),.int .u8 (S 9),.int .u8 (S 10),.int .u8 (S 11),.int .u8 (S 12),.int .u8 (S 13),.int .u8 (S 14),.int .u8 (S 15),.bool true,.int .u8 (D 0),.int .u8 (D 1),.int .u8 (D 2),.int .u8 (D 3),.int .u8 (D 4),.int .u8 (D 5),.int .u8 (D 6),.int .u8 (D 7),.int .u8 (D 8),.int .u8 (D 9),.int .u8 (D 10),.int .u8 (D 11),.int .u8 (D 12),.int .u8 (D 13),.int .u8 (D 14),.int .u8 (D 15),.int .u8 p,.int .u16 (Jw p L).src,.int .u16 (Jw p L).dst,.int .i64 ln,.int .u8 (Jw p L).flags,.bool false],.int .i64 0]):=Jnv (fun h=>by unfold pkR;rw[h,HOF.out h,hU];rfl)
     clear hU hE HUP HER2 HOF
     have HCC:=Jnv (JcZ bo true true S D p ln false false ob nb cb L z4 (HPI.out.2 (by first|rfl|trivial)) HR4.out (by have:=HBL.out;omega) HO4.out)
     go_wp2_with fail
     refine Jnx HCC.out ?_
     rintro e z5 ⟨sp,dp,fl,⟨rfl,hbx,hbe,hot⟩,hval⟩
     have HX5:=Jnv ((hot b0 HNE.out.2.symm (Jnw HX4.out).1).trans HX4.out)
     have HO5:=Jnv hbx
     have HB5:Hid (Below w.heap.size w z5):=Jnv (HB4.out.trans (hbe.mono HLB.out))
     have hrf:Jl z5 b0 40=true:=by rw[Jd _ _ _ _ _ HX5.out];rfl
     have lo5:bo<z5.heap.size:=(Jnw HO5.out).1
     clear hbx hbe hot HCC HX4 HO4 HB4 HR4 c39 c41
     by_cases h0:(Jw p L).err=0
     ·obtain⟨rfl,rfl,rfl⟩:=hval h0
      have HV2:=Jnv (HV.out (HE2.out.trans h0))
      rw[h0]
      clear HV HE2 h0 hval
      generalize (Jw p L).src=sp at*
      generalize (Jw p L).dst=dp at*
      generalize (Jw p L).flags=fl at*
      have hpt:Jc z5 bo 0 40=(JnJ true true p (.int .u16 sp) (.int .u16 dp) (.int .i64 ln) fl false S D:Array Value):=Qf (a:=(JnJ true true p (.int .u16 sp) (.int .u16 dp) (.int .i64 ln) fl false S D)) (c:=#[.slice ob nb cb,false]) HO5.out rfl
      go_wp2_with fail
      exact Qb (cs:=(JnJ true true p (.int .u16 sp) (.int .u16 dp) (.int .i64 ln) fl false S D)) b0 rfl rfl (Jb (Jh HX5.out) rfl) rfl HV2.out (HB5.out.trans (Jf _ (Nat.le_of_eq HB0.out.symm)))
     ·have HV2:=Jnv (XP (l:=l) HE2.out h0)
      have hne1:((Jw p L).err != 0)=true:=by simpa using h0
      clear HV HE2 h0 hval
      generalize (Jw p L).err=er at*
      go_wp2_with fail
      exact Qb (cs:=JaM) b0 rfl rfl (Jb (Jh HX5.out) rfl) rfl HV2.out (HB5.out.trans (Jf _ (Nat.le_of_eq HB0.out.symm)))
    ·skip
     have lo3:bo<z3.heap.size:=(Jnw HO3.out).1
     have c34:=cell_of_row _ _ 34 _ _ (0,0) HO3.out
     have c39:=cell_of_row _ _ 39 _ _ (0,0) HO3.out
     have c41:=cell_of_row _ _ 41 _ _ (0,0) HO3.out
     clear c39 c41
     go_wp2_with fail
     refine Jnx (HIC.out _) ?_
     rintro e z4 ⟨rfl,hb4⟩
     have HX4:=Jnv ((hb4.block b0 (Jnw HX3.out).1).trans HX3.out)
     have HO4:=Jnv ((hb4.block bo (Jnw HO3.out).1).trans HO3.out)
     have HB4:=Jnv (Jno HB3.out hb4)
     have HR4:=Jnv (HR3.out.below hb4)
     clear hb4 c34 lo3 HX3 HO3 HB3 HR3
     have lo4:bo<z4.heap.size:=(Jnw HO4.out).1
     have c39:=cell_of_row _ _ 39 _ _ (0,0) HO4.out
     have c41:=cell_of_row _ _ 41 _ _ (0,0) HO4.out
     have hU:Ja6 ⟨true,S,D,p,ln,false,true,L⟩=Jy p L:=by rw[HUP.out];rfl
     have hE:Qu l=(Jy p L).err:=by rw[HER2.out,hU]
     have HE2:=Jnv hE
     have HV:Hid (Qu l=0→pkR l=.tuple #[.agg #[.bool true,.int .u8 (S 0),.int .u8 (S 1),.int .u8 (S 2),.int .u8 (S 3),.int .u8 (S 4),.int .u8 (S 5),.int .u8 (S 6),.int .u8 (S 7),.int .u8 (S 8),.int .u8 (S 9),.int .u8 (S 10),.int .u8 (S 11),.int .u8 (S 12),.int .u8 (S 13),.int .u8 (S 14),.int .u8 (S 15),.bool true,.int .u8 (D 0),.int .u8 (D 1),.int .u8 (D 2),.int .u8 (D 3),.int .u8 (D 4),.int .u8 (D 5),.int .u8 (D 6),.int .u8 (D 7),.int .u8 (D 8),.int .u8 (D 9),.int .u8 (D 10),.int .u8 (D 11),.int .u8 (D 12),.int .u8 (D 13),.int .u8 (D 14),.int .u8 (D 15),.int .u8 p,.int .u16 (Jy p L).src,.int .u16 (Jy p L).dst,.int .i64 ln,.int .u8 (Jy p L).flags,.bool false],.int .i64 0]):=Jnv (fun h=>by unfold pkR;rw[h,HOF.out h,hU];rfl)
     clear hU hE HUP HER2 HOF
     have HCC:=Jnv (JcY bo true true S D p ln false true ob nb cb L z4 (HPI.out.2 (by first|rfl|trivial)) HR4.out (by have:=HBL.out;omega) HNE.out.1 HO4.out)
     go_wp2_with fail
     refine Jnx HCC.out ?_
     rintro e z5 ⟨sp,dp,fl,⟨rfl,hbx,hbe,hot⟩,hval⟩
     have HX5:=Jnv ((hot b0 HNE.out.2.symm (Jnw HX4.out).1).trans HX4.out)
     have HO5:=Jnv hbx
     have HB5:Hid (Below w.heap.size w z5):=Jnv (HB4.out.trans (hbe.mono HLB.out))
     have hrf:Jl z5 b0 40=true:=by rw[Jd _ _ _ _ _ HX5.out];rfl
     have lo5:bo<z5.heap.size:=(Jnw HO5.out).1
     clear hbx hbe hot HCC HX4 HO4 HB4 HR4 c39 c41
     by_cases h0:(Jy p L).err=0
     ·obtain⟨rfl,rfl,rfl⟩:=hval h0
      have HV2:=Jnv (HV.out (HE2.out.trans h0))
      rw[h0]
      clear HV HE2 h0 hval
      generalize (Jy p L).src=sp at*
      generalize (Jy p L).dst=dp at*
      generalize (Jy p L).flags=fl at*
      have hpt:Jc z5 bo 0 40=(JnJ true true p (.int .u16 sp) (.int .u16 dp) (.int .i64 ln) fl false S D:Array Value):=Qf (a:=(JnJ true true p (.int .u16 sp) (.int .u16 dp) (.int .i64 ln) fl false S D)) (c:=#[.slice ob nb cb,true]) HO5.out rfl
      go_wp2_with fail
      exact Qb (cs:=(JnJ true true p (.int .u16 sp) (.int .u16 dp) (.int .i64 ln) fl false S D)) b0 rfl rfl (Jb (Jh HX5.out) rfl) rfl HV2.out (HB5.out.trans (Jf _ (Nat.le_of_eq HB0.out.symm)))
     ·have HV2:=Jnv (XP (l:=l) HE2.out h0)
      have hne1:((Jy p L).err != 0)=true:=by simpa using h0
      clear HV HE2 h0 hval
      generalize (Jy p L).err=er at*
      go_wp2_with fail
      exact Qb (cs:=JaM) b0 rfl rfl (Jb (Jh HX5.out) rfl) rfl HV2.out (HB5.out.trans (Jf _ (Nat.le_of_eq HB0.out.symm)))
   ·skip
    have lo3:bo<z3.heap.size:=(Jnw HO3.out).1
    have c34:=cell_of_row _ _ 34 _ _ (0,0) HO3.out
    have c39:=cell_of_row _ _ 39 _ _ (0,0) HO3.out
    have c41:=cell_of_row _ _ 41 _ _ (0,0) HO3.out
    have hU:Ja6 ⟨true,S,D,p,ln,true,mo,L⟩=⟨0,0,0,0⟩:=by rw[HUP.out];rfl
    have hE:Qu l=0:=by rw[HER2.out,hU]
    have HV:Hid (pkR l=.tuple #[.agg #[.bool true,.int .u8 (S 0),.int .u8 (S 1),.int .u8 (S 2),.int .u8 (S 3),.int .u8 (S 4),.int .u8 (S 5),.int .u8 (S 6),.int .u8 (S 7),.int .u8 (S 8),.int .u8 (S 9),.int .u8 (S 10),.int .u8 (S 11),.int .u8 (S 12),.int .u8 (S 13),.int .u8 (S 14),.int .u8 (S 15),.bool true,.int .u8 (D 0),.int .u8 (D 1),.int .u8 (D 2),.int .u8 (D 3),.int .u8 (D 4),.int .u8 (D 5),.int .u8 (D 6),.int .u8 (D 7),.int .u8 (D 8),.int .u8 (D 9),.int .u8 (D 10),.int .u8 (D 11),.int .u8 (D 12),.int .u8 (D 13),.int .u8 (D 14),.int .u8 (D 15),.int .u8 p,.int .u16 0,.int .u16 0,.int .i64 ln,.int .u8 0,.bool true],.int .i64 0]):=Jnv (by unfold pkR;rw[hE,HOF.out hE,hU];rfl)
    clear hU hE HUP HER2 HOF
    clear c39 c41
    go_wp2_with fail
    refine Jnx (HIC.out _) ?_
    rintro e z4 ⟨rfl,hb4⟩
    have HX4:=Jnv ((hb4.block b0 (Jnw HX3.out).1).trans HX3.out)
    have HO4:=Jnv ((hb4.block bo (Jnw HO3.out).1).trans HO3.out)
    have HB4:=Jnv (Jno HB3.out hb4)
    have HR4:=Jnv (HR3.out.below hb4)
    clear hb4 c34 lo3 HX3 HO3 HB3 HR3
    have lo4:bo<z4.heap.size:=(Jnw HO4.out).1
    have c39:=cell_of_row _ _ 39 _ _ (0,0) HO4.out
    have c41:=cell_of_row _ _ 41 _ _ (0,0) HO4.out
    have hpt:Jc z4 bo 0 40=(JnL true true p (.int .i64 ln) true S D:Array Value):=Qf (a:=(JnL true true p (.int .i64 ln) true S D)) (c:=#[.slice ob nb cb,mo]) HO4.out rfl
    have hrf:Jl z4 b0 40=true:=by rw[Jd _ _ _ _ _ HX4.out];rfl
    go_wp2_with fail
    exact Qb (cs:=(JnL true true p (.int .i64 ln) true S D)) b0 rfl rfl (Jb (Jh HX4.out) rfl) rfl HV.out (HB4.out.trans (Jf _ (Nat.le_of_eq HB0.out.symm)))
 ·cases fr
  ·cases mo
   ·skip
    have lo3:bo<z3.heap.size:=(Jnw HO3.out).1
    have c34:=cell_of_row _ _ 34 _ _ (0,0) HO3.out
    have c39:=cell_of_row _ _ 39 _ _ (0,0) HO3.out
    have c41:=cell_of_row _ _ 41 _ _ (0,0) HO3.out
    have hU:Ja6 ⟨true,S,D,p,ln,false,false,L⟩=Jw p L:=by rw[HUP.out];rfl
    have hE:Qu l=(Jw p L).err:=by rw[HER2.out,hU]
    have HE2:=Jnv hE
    have HV:Hid (Qu l=0→pkR l=.tuple #[.agg #[.bool true,.int .u8 (S 0),.int .u8 (S 1),.int .u8 (S 2),.int .u8 (S 3),.int .u8 (S 4),.int .u8 (S 5),.int .u8 (S 6),.int .u8 (S 7),.int .u8 (S 8),.int .u8 (S 9),.int .u8 (S 10),.int .u8 (S 11),.int .u8 (S 12),.int .u8 (S 13),.int .u8 (S 14),.int .u8 (S 15),.bool true,.int .u8 (D 0),.int .u8 (D 1),.int .u8 (D 2),.int .u8 (D 3),.int .u8 (D 4),.int .u8 (D 5),.int .u8 (D 6),.int .u8 (D 7),.int .u8 (D 8),.int .u8 (D 9),.int .u8 (D 10),.int .u8 (D 11),.int .u8 (D 12),.int .u8 (D 13),.int .u8 (D 14),.int .u8 (D 15),.int .u8 p,.int .u16 (Jw p L).src,.int .u16 (Jw p L).dst,.int .i64 ln,.int .u8 (Jw p L).flags,.bool false],.int .i64 0]):=Jnv (fun h=>by unfold pkR;rw[h,HOF.out h,hU];rfl)
    clear hU hE HUP HER2 HOF
    have HCC:=Jnv (JcZ bo true true S D p ln false false ob nb cb L z3 (HPI.out.1 (by first|rfl|trivial)) HR3.out (by have:=HBL.out;omega) HO3.out)
    go_wp2_with fail
    refine Jnx HCC.out ?_
    rintro e z5 ⟨sp,dp,fl,⟨rfl,hbx,hbe,hot⟩,hval⟩
    have HX5:=Jnv ((hot b0 HNE.out.2.symm (Jnw HX3.out).1).trans HX3.out)
    have HO5:=Jnv hbx
    have HB5:Hid (Below w.heap.size w z5):=Jnv (HB3.out.trans (hbe.mono HLB.out))
    have hrf:Jl z5 b0 40=true:=by rw[Jd _ _ _ _ _ HX5.out];rfl
    have lo5:bo<z5.heap.size:=(Jnw HO5.out).1
    clear hbx hbe hot HCC HX3 HO3 HB3 HR3 c39 c41
    by_cases h0:(Jw p L).err=0
    ·obtain⟨rfl,rfl,rfl⟩:=hval h0
     have HV2:=Jnv (HV.out (HE2.out.trans h0))
     rw[h0]
     clear HV HE2 h0 hval
     generalize (Jw p L).src=sp at*
     generalize (Jw p L).dst=dp at*
     generalize (Jw p L).flags=fl at*
     have hpt:Jc z5 bo 0 40=(JnJ true true p (.int .u16 sp) (.int .u16 dp) (.int .i64 ln) fl false S D:Array Value):=Qf (a:=(JnJ true true p (.int .u16 sp) (.int .u16 dp) (.int .i64 ln) fl false S D)) (c:=#[.slice ob nb cb,false]) HO5.out rfl
     go_wp2_with fail
     exact Qb (cs:=(JnJ true true p (.int .u16 sp) (.int .u16 dp) (.int .i64 ln) fl false S D)) b0 rfl rfl (Jb (Jh HX5.out) rfl) rfl HV2.out (HB5.out.trans (Jf _ (Nat.le_of_eq HB0.out.symm)))
    ·have HV2:=Jnv (XP (l:=l) HE2.out h0)
     have hne1:((Jw p L).err != 0)=true:=by simpa using h0
     clear HV HE2 h0 hval
     generalize (Jw p L).err=er at*
     go_wp2_with fail
     exact Qb (cs:=JaM) b0 rfl rfl (Jb (Jh HX5.out) rfl) rfl HV2.out (HB5.out.trans (Jf _ (Nat.le_of_eq HB0.out.symm)))
   ·skip
    have lo3:bo<z3.heap.size:=(Jnw HO3.out).1
    have c34:=cell_of_row _ _ 34 _ _ (0,0) HO3.out
    have c39:=cell_of_row _ _ 39 _ _ (0,0) HO3.out
    have c41:=cell_of_row _ _ 41 _ _ (0,0) HO3.out
    have hU:Ja6 ⟨true,S,D,p,ln,false,true,L⟩=Jy p L:=by rw[HUP.out];rfl
    have hE:Qu l=(Jy p L).err:=by rw[HER2.out,hU]
    have HE2:=Jnv hE
    have HV:Hid (Qu l=0→pkR l=.tuple #[.agg #[.bool true,.int .u8 (S 0),.int .u8 (S 1),.int .u8 (S 2),.int .u8 (S 3),.int .u8 (S 4),.int .u8 (S 5),.int .u8 (S 6),.int .u8 (S 7),.int .u8 (S 8),.int .u8 (S 9),.int .u8 (S 10),.int .u8 (S 11),.int .u8 (S 12),.int .u8 (S 13),.int .u8 (S 14),.int .u8 (S 15),.bool true,.int .u8 (D 0),.int .u8 (D 1),.int .u8 (D 2),.int .u8 (D 3),.int .u8 (D 4),.int .u8 (D 5),.int .u8 (D 6),.int .u8 (D 7),.int .u8 (D 8),.int .u8 (D 9),.int .u8 (D 10),.int .u8 (D 11),.int .u8 (D 12),.int .u8 (D 13),.int .u8 (D 14),.int .u8 (D 15),.int .u8 p,.int .u16 (Jy p L).src,.int .u16 (Jy p L).dst,.int .i64 ln,.int .u8 (Jy p L).flags,.bool false],.int .i64 0]):=Jnv (fun h=>by unfold pkR;rw[h,HOF.out h,hU];rfl)
    clear hU hE HUP HER2 HOF
    have HCC:=Jnv (JcY bo true true S D p ln false true ob nb cb L z3 (HPI.out.1 (by first|rfl|trivial)) HR3.out (by have:=HBL.out;omega) HNE.out.1 HO3.out)
    go_wp2_with fail
    refine Jnx HCC.out ?_
    rintro e z5 ⟨sp,dp,fl,⟨rfl,hbx,hbe,hot⟩,hval⟩
    have HX5:=Jnv ((hot b0 HNE.out.2.symm (Jnw HX3.out).1).trans HX3.out)
    have HO5:=Jnv hbx
    have HB5:Hid (Below w.heap.size w z5):=Jnv (HB3.out.trans (hbe.mono HLB.out))
    have hrf:Jl z5 b0 40=true:=by rw[Jd _ _ _ _ _ HX5.out];rfl
    have lo5:bo<z5.heap.size:=(Jnw HO5.out).1
    clear hbx hbe hot HCC HX3 HO3 HB3 HR3 c39 c41
    by_cases h0:(Jy p L).err=0
    ·obtain⟨rfl,rfl,rfl⟩:=hval h0
     have HV2:=Jnv (HV.out (HE2.out.trans h0))
     rw[h0]
     clear HV HE2 h0 hval
     generalize (Jy p L).src=sp at*
     generalize (Jy p L).dst=dp at*
     generalize (Jy p L).flags=fl at*
     have hpt:Jc z5 bo 0 40=(JnJ true true p (.int .u16 sp) (.int .u16 dp) (.int .i64 ln) fl false S D:Array Value):=Qf (a:=(JnJ true true p (.int .u16 sp) (.int .u16 dp) (.int .i64 ln) fl false S D)) (c:=#[.slice ob nb cb,true]) HO5.out rfl
     go_wp2_with fail
     exact Qb (cs:=(JnJ true true p (.int .u16 sp) (.int .u16 dp) (.int .i64 ln) fl false S D)) b0 rfl rfl (Jb (Jh HX5.out) rfl) rfl HV2.out (HB5.out.trans (Jf _ (Nat.le_of_eq HB0.out.symm)))
    ·have HV2:=Jnv (XP (l:=l) HE2.out h0)
     have hne1:((Jy p L).err != 0)=true:=by simpa using h0
     clear HV HE2 h0 hval
     generalize (Jy p L).err=er at*
     go_wp2_with fail
     exact Qb (cs:=JaM) b0 rfl rfl (Jb (Jh HX5.out) rfl) rfl HV2.out (HB5.out.trans (Jf _ (Nat.le_of_eq HB0.out.symm)))
  ·skip
   have lo3:bo<z3.heap.size:=(Jnw HO3.out).1
   have c34:=cell_of_row _ _ 34 _ _ (0,0) HO3.out
   have c39:=cell_of_row _ _ 39 _ _ (0,0) HO3.out
   have c41:=cell_of_row _ _ 41 _ _ (0,0) HO3.out
   have hU:Ja6 ⟨true,S,D,p,ln,true,mo,L⟩=⟨0,0,0,0⟩:=by rw[HUP.out];rfl
   have hE:Qu l=0:=by rw[HER2.out,hU]
   have HV:Hid (pkR l=.tuple #[.agg #[.bool true,.int .u8 (S 0),.int .u8 (S 1),.int .u8 (S 2),.int .u8 (S 3),.int .u8 (S 4),.int .u8 (S 5),.int .u8 (S 6),.int .u8 (S 7),.int .u8 (S 8),.int .u8 (S 9),.int .u8 (S 10),.int .u8 (S 11),.int .u8 (S 12),.int .u8 (S 13),.int .u8 (S 14),.int .u8 (S 15),.bool true,.int .u8 (D 0),.int .u8 (D 1),.int .u8 (D 2),.int .u8 (D 3),.int .u8 (D 4),.int .u8 (D 5),.int .u8 (D 6),.int .u8 (D 7),.int .u8 (D 8),.int .u8 (D 9),.int .u8 (D 10),.int .u8 (D 11),.int .u8 (D 12),.int .u8 (D 13),.int .u8 (D 14),.int .u8 (D 15),.int .u8 p,.int .u16 0,.int .u16 0,.int .i64 ln,.int .u8 0,.bool true],.int .i64 0]):=Jnv (by unfold pkR;rw[hE,HOF.out hE,hU];rfl)
   clear hU hE HUP HER2 HOF
   have hpt:Jc z3 bo 0 40=(JnL true true p (.int .i64 ln) true S D:Array Value):=Qf (a:=(JnL true true p (.int .i64 ln) true S D)) (c:=#[.slice ob nb cb,mo]) HO3.out rfl
   have hrf:Jl z3 b0 40=true:=by rw[Jd _ _ _ _ _ HX3.out];rfl
   go_wp2_with fail
   exact Qb (cs:=(JnL true true p (.int .i64 ln) true S D)) b0 rfl rfl (Jb (Jh HX3.out) rfl) rfl HV.out (HB3.out.trans (Jf _ (Nat.le_of_eq HB0.out.symm)))
theorem Jes (oa:Option Addr)(n cap:Nat)(l:List Int)(w:World)(hr:Jj w oa n cap l):Calls Tryz.prog 11 #[.slice oa n cap] w (Jk w (pkR l)):=by
 by_cases h1:2048<n
 ·exact JgJ oa n cap l w hr h1
 by_cases h2:n=0
 ·exact JhB oa n cap l w hr h2
 by_cases h4:l.getD 0 0/16=4
 ·exact JdH oa n cap l w hr (by omega) (by omega) h4
 by_cases h6:l.getD 0 0/16=6
 ·exact JiU oa n cap l w hr (by omega) (by omega) h6
 exact JcM oa n cap l w hr (by omega) (by omega) ⟨h4,h6⟩
open Go.RowKit
theorem Bx.lts {W w:World}{fs:List (Nat×Obj)}(h:Bx W w fs):∀p∈fs,p.1<w.heap.size:=fun p hp=>(Jnw (h.all p.1 p.2 hp)).1
theorem Bx.grown {W w w' z:World}{fs:List (Nat×Obj)}{oa:Option Addr}(h:Bx W w fs)(hz:Bx W z fs)(hg:w.grownBy w' (oa.map Addr.block))(hn:∀a,oa=some a→z.heap.size≤a.block):Bx W w' fs:=by
 refine⟨fun b o hm=>?_,Below.grown h.out hg h.out.size (fun k hk=>?_)⟩
 ·refine(hg.block b (Jnw (h.all b o hm)).1 (fun e=>?_)).trans (h.all b o hm)
  obtain⟨a,ha,hab⟩:=Option.map_eq_some_iff.1 e.symm
  have h1:=hn a ha
  have h2:b<z.heap.size:=hz.lts _ hm
  omega
 ·obtain⟨a,ha,hab⟩:=Option.map_eq_some_iff.1 hk
  have h1:=hn a ha
  have h2:=hz.out.size
  omega
open Go.RowKit
theorem JdJ (w:World)(dd:Nat)(s:Bool)(S:Nat→Int)(t:Bool)(T:Nat→Int)(p a b n f:Int)(r:Bool):
 (Op.equalIn (dd+7) 32 (.agg (JnJ s t p (.int .u16 a) (.int .u16 b) (.int .i64 n) f r S T)) (.agg (JnJ s t p (.int .u16 a) (.int .u16 b) (.int .i64 n) f r S T))).run Tryz.prog w=.ok true w:=by
 simp[go_sem,JhU]
attribute [go_sem 5000] JdJ
open Go.RowKit
theorem JlZ (i:Int):-200<Int.tmod i 200∧Int.tmod i 200<200:=by
 have h1:=Int.tmod_lt_of_pos i (show(0:Int)<200 by decide)
 have h2:=Int.lt_tmod_of_pos i (show(0:Int)<200 by decide)
 omega
theorem Jk6 (i:Int):∃k:Nat,k<200∧∀w,Calls Tryz.prog 19 #[.int .i64 i,.int .i64 200] w (Jk w (.int .i64 (k:Int))):=by
 obtain⟨m,hm⟩:∃m,Int.tmod i 200=m:=⟨_,rfl⟩
 have hb:=JlZ i
 rw[hm] at hb
 have h0:0≤m+200:=by omega
 have e1:Int.tmod (m+200) 200=(m+200)%200:=Int.tmod_eq_emod_of_nonneg h0
 obtain⟨k,hk⟩:=Int.eq_ofNat_of_zero_le (show 0≤(m+200)%200 by omega)
 refine⟨k,by omega,fun w=>?_⟩
 have hw:IntKind.i64.wrap (m+200)=m+200:=IntWalk.i64_in _ (by omega)
 have e2:Int.tmod (m+200) 200=(k:Int):=e1.trans hk
 clear e1 hk
 go_enter Tryz.func19,Tryz.ntmps19
 go_wp2_with fail
 go_ret
 exact .mk rfl (Jny _ _)
open Go.RowKit
theorem Jk7 (S T:Nat→Int)(tot p:Int)(body:List Int)(ht:tot=20+(body.length:Int))(hT:tot<65536)(l:List Int)(hl:l=J8 ⟨0,tot,0,false,false,0,64,p,Ja false S,Ja false T,[]⟩++body):
 Q4 l=0∧ipHl l=20∧∀ob cb,ipA l ob cb=(JnZ (.int .u16 tot) false false (64:Int) p (.slice ob 0 cb) S T:Array Value):=by
 obtain⟨-,-,hE,-,-⟩:=Jfw tot 0 p false (Ja false S) (Ja false T) body [] (Ji _ _) (Ji _ _) ht hT (by omega) l (by rw[hl,List.append_nil])
 obtain⟨C,hC⟩:∃C:Int,J8 ⟨0,tot,0,false,false,0,64,p,Ja false S,Ja false T,[]⟩=JQ ⟨0,tot,0,false,false,0,64,p,Ja false S,Ja false T,[]⟩ C:=⟨_,rfl⟩
 have hc:l=69::0::(tot/256%256)::(tot%256)::0::0::0::0::64::p::(C/256%256)::(C%256)::S 0::S 1::S 2::S 3::T 0::T 1::T 2::T 3::body:=by
  have hf:QT ⟨0,tot,0,false,false,0,64,p,Ja false S,Ja false T,[]⟩=0:=by unfold QT;simp
  rw[hl,hC]
  unfold JQ be2
  simp only[hf]
  rw[show Ja false S=[S 0,S 1,S 2,S 3] from rfl,show Ja false T=[T 0,T 1,T 2,T 3] from rfl]
  simp only[List.cons_append,List.nil_append,List.length_nil]
  rfl
 have e0:l.getD 0 0=69:=by rw[hc];rfl
 have hh:ipHl l=20:=by unfold ipHl;rw[e0];rfl
 have e2:w2 l 2=tot:=by
  have:w2 l 2=tot/256%256*256+tot%256:=by rw[hc];rfl
  omega
 have e4:w2 l 4=0:=by rw[hc];rfl
 have e6:w2 l 6=0:=by rw[hc];rfl
 refine⟨hE,hh,fun ob cb=>?_⟩
 unfold ipA
 rw[e2,e4,e6,hh,hc]
 rfl
end
end Go.Proofs.YtkgjbipfhhjlpaaGreatDoor
