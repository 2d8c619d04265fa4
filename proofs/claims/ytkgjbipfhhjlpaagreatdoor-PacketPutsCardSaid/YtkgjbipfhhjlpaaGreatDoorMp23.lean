import Derived.Test.YtkgjbipfhhjlpaaGreatDoorMp22
set_option linter.unusedVariables false
set_option linter.unusedSimpArgs false
set_option maxRecDepth 100000
set_option maxHeartbeats 32000000
namespace Go.Proofs.YtkgjbipfhhjlpaaGreatDoor
section
open Go.RowKit
theorem litU8 (l:List Int)(h:(l.all fun v=>decide (0≤v∧v<256))=true):U8 fun i=>l.getD i 0:=fun i=>
 isBytes_getD (fun v hv=>of_decide_eq_true (List.all_eq_true.1 h v hv)) i
theorem wkR0 (w:World)(h:Env w):Calls Tryz.prog 22 #[.string ⟨#[54,32,49,48,46,48,46,48,46,49,32,53,32,49,48,46,48,46,48,46,50,32,56,48]⟩] w (RetAt w (.tuple #[.agg #[.bool false,.int .u8 10,.int .u8 0,.int .u8 0,.int .u8 1,.int .u8 0,.int .u8 0,.int .u8 0,.int .u8 0,.int .u8 0,.int .u8 0,.int .u8 0,.int .u8 0,.int .u8 0,.int .u8 0,.int .u8 0,.int .u8 0,.bool false,.int .u8 10,.int .u8 0,.int .u8 0,.int .u8 2,.int .u8 0,.int .u8 0,.int .u8 0,.int .u8 0,.int .u8 0,.int .u8 0,.int .u8 0,.int .u8 0,.int .u8 0,.int .u8 0,.int .u8 0,.int .u8 0,.int .u8 6,.int .u16 5,.int .u16 80],.int .i64 0])):=by
 have h1:=kread_any [54,32,49,48,46,48,46,48,46,49,32,53,32,49,48,46,48,46,48,46,50,32,56,48] w (by decide) h
 rw[show kyReadV (kyRead [54,32,49,48,46,48,46,48,46,49,32,53,32,49,48,46,48,46,48,46,50,32,56,48])=.tuple #[.agg #[.bool false,.int .u8 10,.int .u8 0,.int .u8 0,.int .u8 1,.int .u8 0,.int .u8 0,.int .u8 0,.int .u8 0,.int .u8 0,.int .u8 0,.int .u8 0,.int .u8 0,.int .u8 0,.int .u8 0,.int .u8 0,.int .u8 0,.bool false,.int .u8 10,.int .u8 0,.int .u8 0,.int .u8 2,.int .u8 0,.int .u8 0,.int .u8 0,.int .u8 0,.int .u8 0,.int .u8 0,.int .u8 0,.int .u8 0,.int .u8 0,.int .u8 0,.int .u8 0,.int .u8 0,.int .u8 6,.int .u16 5,.int .u16 80],.int .i64 0] by kernel_rfl] at h1
 exact h1
theorem wkR1 (w:World)(h:Env w):Calls Tryz.prog 22 #[.string ⟨#[49,32,49,48,46,48,46,48,46,49,32,48,32,49,48,46,48,46,48,46,50,32,50,48,52,56]⟩] w (RetAt w (.tuple #[.agg #[.bool false,.int .u8 10,.int .u8 0,.int .u8 0,.int .u8 1,.int .u8 0,.int .u8 0,.int .u8 0,.int .u8 0,.int .u8 0,.int .u8 0,.int .u8 0,.int .u8 0,.int .u8 0,.int .u8 0,.int .u8 0,.int .u8 0,.bool false,.int .u8 10,.int .u8 0,.int .u8 0,.int .u8 2,.int .u8 0,.int .u8 0,.int .u8 0,.int .u8 0,.int .u8 0,.int .u8 0,.int .u8 0,.int .u8 0,.int .u8 0,.int .u8 0,.int .u8 0,.int .u8 0,.int .u8 1,.int .u16 0,.int .u16 2048],.int .i64 0])):=by
 have h1:=kread_any [49,32,49,48,46,48,46,48,46,49,32,48,32,49,48,46,48,46,48,46,50,32,50,48,52,56] w (by decide) h
 rw[show kyReadV (kyRead [49,32,49,48,46,48,46,48,46,49,32,48,32,49,48,46,48,46,48,46,50,32,50,48,52,56])=.tuple #[.agg #[.bool false,.int .u8 10,.int .u8 0,.int .u8 0,.int .u8 1,.int .u8 0,.int .u8 0,.int .u8 0,.int .u8 0,.int .u8 0,.int .u8 0,.int .u8 0,.int .u8 0,.int .u8 0,.int .u8 0,.int .u8 0,.int .u8 0,.bool false,.int .u8 10,.int .u8 0,.int .u8 0,.int .u8 2,.int .u8 0,.int .u8 0,.int .u8 0,.int .u8 0,.int .u8 0,.int .u8 0,.int .u8 0,.int .u8 0,.int .u8 0,.int .u8 0,.int .u8 0,.int .u8 0,.int .u8 1,.int .u16 0,.int .u16 2048],.int .i64 0] by kernel_rfl] at h1
 exact h1
theorem wkR2 (w:World)(h:Env w):Calls Tryz.prog 22 #[.string ⟨#[49,55,32,58,58,49,32,57,32,58,58,50,32,53,51]⟩] w (RetAt w (.tuple #[.agg #[.bool true,.int .u8 0,.int .u8 0,.int .u8 0,.int .u8 0,.int .u8 0,.int .u8 0,.int .u8 0,.int .u8 0,.int .u8 0,.int .u8 0,.int .u8 0,.int .u8 0,.int .u8 0,.int .u8 0,.int .u8 0,.int .u8 1,.bool true,.int .u8 0,.int .u8 0,.int .u8 0,.int .u8 0,.int .u8 0,.int .u8 0,.int .u8 0,.int .u8 0,.int .u8 0,.int .u8 0,.int .u8 0,.int .u8 0,.int .u8 0,.int .u8 0,.int .u8 0,.int .u8 2,.int .u8 17,.int .u16 9,.int .u16 53],.int .i64 0])):=by
 have h1:=kread_any [49,55,32,58,58,49,32,57,32,58,58,50,32,53,51] w (by decide) h
 rw[show kyReadV (kyRead [49,55,32,58,58,49,32,57,32,58,58,50,32,53,51])=.tuple #[.agg #[.bool true,.int .u8 0,.int .u8 0,.int .u8 0,.int .u8 0,.int .u8 0,.int .u8 0,.int .u8 0,.int .u8 0,.int .u8 0,.int .u8 0,.int .u8 0,.int .u8 0,.int .u8 0,.int .u8 0,.int .u8 0,.int .u8 1,.bool true,.int .u8 0,.int .u8 0,.int .u8 0,.int .u8 0,.int .u8 0,.int .u8 0,.int .u8 0,.int .u8 0,.int .u8 0,.int .u8 0,.int .u8 0,.int .u8 0,.int .u8 0,.int .u8 0,.int .u8 0,.int .u8 2,.int .u8 17,.int .u16 9,.int .u16 53],.int .i64 0] by kernel_rfl] at h1
 exact h1
theorem wkR3 (w:World)(h:Env w):Calls Tryz.prog 22 #[.string ⟨#[54,32,49,48,46,48,46,48,46,49,32,48,53,32,49,48,46,48,46,48,46,50,32,56,48]⟩] w (RetAt w (.tuple #[.agg #[.bool false,.int .u8 0,.int .u8 0,.int .u8 0,.int .u8 0,.int .u8 0,.int .u8 0,.int .u8 0,.int .u8 0,.int .u8 0,.int .u8 0,.int .u8 0,.int .u8 0,.int .u8 0,.int .u8 0,.int .u8 0,.int .u8 0,.bool false,.int .u8 0,.int .u8 0,.int .u8 0,.int .u8 0,.int .u8 0,.int .u8 0,.int .u8 0,.int .u8 0,.int .u8 0,.int .u8 0,.int .u8 0,.int .u8 0,.int .u8 0,.int .u8 0,.int .u8 0,.int .u8 0,.int .u8 0,.int .u16 0,.int .u16 0],.int .i64 40])):=by
 have h1:=kread_any [54,32,49,48,46,48,46,48,46,49,32,48,53,32,49,48,46,48,46,48,46,50,32,56,48] w (by decide) h
 rw[show kyReadV (kyRead [54,32,49,48,46,48,46,48,46,49,32,48,53,32,49,48,46,48,46,48,46,50,32,56,48])=.tuple #[.agg #[.bool false,.int .u8 0,.int .u8 0,.int .u8 0,.int .u8 0,.int .u8 0,.int .u8 0,.int .u8 0,.int .u8 0,.int .u8 0,.int .u8 0,.int .u8 0,.int .u8 0,.int .u8 0,.int .u8 0,.int .u8 0,.int .u8 0,.bool false,.int .u8 0,.int .u8 0,.int .u8 0,.int .u8 0,.int .u8 0,.int .u8 0,.int .u8 0,.int .u8 0,.int .u8 0,.int .u8 0,.int .u8 0,.int .u8 0,.int .u8 0,.int .u8 0,.int .u8 0,.int .u8 0,.int .u8 0,.int .u16 0,.int .u16 0],.int .i64 40] by kernel_rfl] at h1
 exact h1
theorem wkR4 (w:World)(h:Env w):Calls Tryz.prog 22 #[.string ⟨#[49,32,58,58,49,32,49,32,58,58,49,32,48]⟩] w (RetAt w (.tuple #[.agg #[.bool false,.int .u8 0,.int .u8 0,.int .u8 0,.int .u8 0,.int .u8 0,.int .u8 0,.int .u8 0,.int .u8 0,.int .u8 0,.int .u8 0,.int .u8 0,.int .u8 0,.int .u8 0,.int .u8 0,.int .u8 0,.int .u8 0,.bool false,.int .u8 0,.int .u8 0,.int .u8 0,.int .u8 0,.int .u8 0,.int .u8 0,.int .u8 0,.int .u8 0,.int .u8 0,.int .u8 0,.int .u8 0,.int .u8 0,.int .u8 0,.int .u8 0,.int .u8 0,.int .u8 0,.int .u8 0,.int .u16 0,.int .u16 0],.int .i64 40])):=by
 have h1:=kread_any [49,32,58,58,49,32,49,32,58,58,49,32,48] w (by decide) h
 rw[show kyReadV (kyRead [49,32,58,58,49,32,49,32,58,58,49,32,48])=.tuple #[.agg #[.bool false,.int .u8 0,.int .u8 0,.int .u8 0,.int .u8 0,.int .u8 0,.int .u8 0,.int .u8 0,.int .u8 0,.int .u8 0,.int .u8 0,.int .u8 0,.int .u8 0,.int .u8 0,.int .u8 0,.int .u8 0,.int .u8 0,.bool false,.int .u8 0,.int .u8 0,.int .u8 0,.int .u8 0,.int .u8 0,.int .u8 0,.int .u8 0,.int .u8 0,.int .u8 0,.int .u8 0,.int .u8 0,.int .u8 0,.int .u8 0,.int .u8 0,.int .u8 0,.int .u8 0,.int .u8 0,.int .u16 0,.int .u16 0],.int .i64 40] by kernel_rfl] at h1
 exact h1
def wkS0:Sp:=(⟨⟨false,(fun i=>([10,0,0,1]:List Int).getD i 0),false,(fun i=>([10,0,0,2]:List Int).getD i 0),6,5,80⟩,2,0⟩:Sp)
theorem wkO0:SpOk wkS0:=⟨⟨litU8 _ (by decide),litU8 _ (by decide),by decide,by decide,by decide⟩,by decide,by decide⟩
theorem wkE0:spErr wkS0=0:=by decide+kernel
theorem wkN0:(spL wkS0).length=40:=by decide+kernel
theorem wkP0 (w:World):Calls Tryz.prog 15 #[.agg #[.bool false,.int .u8 10,.int .u8 0,.int .u8 0,.int .u8 1,.int .u8 0,.int .u8 0,.int .u8 0,.int .u8 0,.int .u8 0,.int .u8 0,.int .u8 0,.int .u8 0,.int .u8 0,.int .u8 0,.int .u8 0,.int .u8 0,.bool false,.int .u8 10,.int .u8 0,.int .u8 0,.int .u8 2,.int .u8 0,.int .u8 0,.int .u8 0,.int .u8 0,.int .u8 0,.int .u8 0,.int .u8 0,.int .u8 0,.int .u8 0,.int .u8 0,.int .u8 0,.int .u8 0,.int .u8 6,.int .u16 5,.int .u16 80,.int .u8 2,.int .i64 0]] w (BytesErr w (spL wkS0) 0):=by
 have h:=spput_any wkS0 wkO0 w
 rw[wkE0] at h
 exact h
def wkS1:Sp:=(⟨⟨false,(fun i=>([10,0,0,1]:List Int).getD i 0),false,(fun i=>([10,0,0,2]:List Int).getD i 0),1,0,2048⟩,0,8⟩:Sp)
theorem wkO1:SpOk wkS1:=⟨⟨litU8 _ (by decide),litU8 _ (by decide),by decide,by decide,by decide⟩,by decide,by decide⟩
theorem wkE1:spErr wkS1=0:=by decide+kernel
theorem wkN1:(spL wkS1).length=32:=by decide+kernel
theorem wkP1 (w:World):Calls Tryz.prog 15 #[.agg #[.bool false,.int .u8 10,.int .u8 0,.int .u8 0,.int .u8 1,.int .u8 0,.int .u8 0,.int .u8 0,.int .u8 0,.int .u8 0,.int .u8 0,.int .u8 0,.int .u8 0,.int .u8 0,.int .u8 0,.int .u8 0,.int .u8 0,.bool false,.int .u8 10,.int .u8 0,.int .u8 0,.int .u8 2,.int .u8 0,.int .u8 0,.int .u8 0,.int .u8 0,.int .u8 0,.int .u8 0,.int .u8 0,.int .u8 0,.int .u8 0,.int .u8 0,.int .u8 0,.int .u8 0,.int .u8 1,.int .u16 0,.int .u16 2048,.int .u8 0,.int .i64 8]] w (BytesErr w (spL wkS1) 0):=by
 have h:=spput_any wkS1 wkO1 w
 rw[wkE1] at h
 exact h
def wkS2:Sp:=(⟨⟨true,(fun i=>([0,0,0,0,0,0,0,0,0,0,0,0,0,0,0,1]:List Int).getD i 0),true,(fun i=>([0,0,0,0,0,0,0,0,0,0,0,0,0,0,0,2]:List Int).getD i 0),17,9,53⟩,0,1⟩:Sp)
theorem wkO2:SpOk wkS2:=⟨⟨litU8 _ (by decide),litU8 _ (by decide),by decide,by decide,by decide⟩,by decide,by decide⟩
theorem wkE2:spErr wkS2=0:=by decide+kernel
theorem wkN2:(spL wkS2).length=49:=by decide+kernel
theorem wkP2 (w:World):Calls Tryz.prog 15 #[.agg #[.bool true,.int .u8 0,.int .u8 0,.int .u8 0,.int .u8 0,.int .u8 0,.int .u8 0,.int .u8 0,.int .u8 0,.int .u8 0,.int .u8 0,.int .u8 0,.int .u8 0,.int .u8 0,.int .u8 0,.int .u8 0,.int .u8 1,.bool true,.int .u8 0,.int .u8 0,.int .u8 0,.int .u8 0,.int .u8 0,.int .u8 0,.int .u8 0,.int .u8 0,.int .u8 0,.int .u8 0,.int .u8 0,.int .u8 0,.int .u8 0,.int .u8 0,.int .u8 0,.int .u8 2,.int .u8 17,.int .u16 9,.int .u16 53,.int .u8 0,.int .i64 1]] w (BytesErr w (spL wkS2) 0):=by
 have h:=spput_any wkS2 wkO2 w
 rw[wkE2] at h
 exact h
theorem wkB20:(spL wkS1).getD 20 0=8:=by decide+kernel
theorem wkQ (oa:Option Addr)(cap:Nat)(w:World)(h:Reads w oa 40 cap (spL wkS0)):Calls Tryz.prog 11 #[.slice oa 40 cap] w (RetAt w (.tuple #[.agg #[.bool false,.int .u8 10,.int .u8 0,.int .u8 0,.int .u8 1,.int .u8 0,.int .u8 0,.int .u8 0,.int .u8 0,.int .u8 0,.int .u8 0,.int .u8 0,.int .u8 0,.int .u8 0,.int .u8 0,.int .u8 0,.int .u8 0,.bool false,.int .u8 10,.int .u8 0,.int .u8 0,.int .u8 2,.int .u8 0,.int .u8 0,.int .u8 0,.int .u8 0,.int .u8 0,.int .u8 0,.int .u8 0,.int .u8 0,.int .u8 0,.int .u8 0,.int .u8 0,.int .u8 0,.int .u8 6,.int .u16 5,.int .u16 80,.int .i64 40,.int .u8 2,.bool false],.int .i64 0])):=by
 have h1:=pparse_four oa 40 cap _ w h (by decide) (by decide) (by decide+kernel)
 rw[show pkR (spL wkS0)=.tuple #[.agg #[.bool false,.int .u8 10,.int .u8 0,.int .u8 0,.int .u8 1,.int .u8 0,.int .u8 0,.int .u8 0,.int .u8 0,.int .u8 0,.int .u8 0,.int .u8 0,.int .u8 0,.int .u8 0,.int .u8 0,.int .u8 0,.int .u8 0,.bool false,.int .u8 10,.int .u8 0,.int .u8 0,.int .u8 2,.int .u8 0,.int .u8 0,.int .u8 0,.int .u8 0,.int .u8 0,.int .u8 0,.int .u8 0,.int .u8 0,.int .u8 0,.int .u8 0,.int .u8 0,.int .u8 0,.int .u8 6,.int .u16 5,.int .u16 80,.int .i64 40,.int .u8 2,.bool false],.int .i64 0] by kernel_rfl] at h1
 exact h1
def NewE (w:World)(m:Nat)(l:List Int)(err:Int):Ending→World→Prop:=fun e w'=>∃oa cap,e=.returned (.tuple #[.slice oa m cap,.int .i64 err])∧Reads w' oa m cap l∧Below w.heap.size w w'
theorem BytesErr.n {w:World}{m:Nat}{l:List Int}{err:Int}(hm:l.length=m)(hl:∀v∈l,0≤v∧v<256){e:Ending}{w':World}(h:BytesErr w l err e w'):NewE w m l err e w':=by
 subst hm
 obtain⟨oa,cap,h1,h2,h3⟩:=h
 exact⟨oa,cap,h1,h2.reads hl,h3⟩
theorem works8_any (w:World)(henv:Env w):Calls Tryz.prog 9 #[] w (RetAt w (.bool true)):=by
 have HE:=Lib.hid henv
 clear henv
 have HP0:Hid (∀w,Calls Tryz.prog 15 #[.agg #[.bool false,.int .u8 10,.int .u8 0,.int .u8 0,.int .u8 1,.int .u8 0,.int .u8 0,.int .u8 0,.int .u8 0,.int .u8 0,.int .u8 0,.int .u8 0,.int .u8 0,.int .u8 0,.int .u8 0,.int .u8 0,.int .u8 0,.bool false,.int .u8 10,.int .u8 0,.int .u8 0,.int .u8 2,.int .u8 0,.int .u8 0,.int .u8 0,.int .u8 0,.int .u8 0,.int .u8 0,.int .u8 0,.int .u8 0,.int .u8 0,.int .u8 0,.int .u8 0,.int .u8 0,.int .u8 6,.int .u16 5,.int .u16 80,.int .u8 2,.int .i64 0]] w (NewE w 40 (spL wkS0) 0)):=Lib.hid fun w=>(wkP0 w).mono fun _ _ h=>h.n wkN0 (spL_byte wkO0)
 have HP1:Hid (∀w,Calls Tryz.prog 15 #[.agg #[.bool false,.int .u8 10,.int .u8 0,.int .u8 0,.int .u8 1,.int .u8 0,.int .u8 0,.int .u8 0,.int .u8 0,.int .u8 0,.int .u8 0,.int .u8 0,.int .u8 0,.int .u8 0,.int .u8 0,.int .u8 0,.int .u8 0,.bool false,.int .u8 10,.int .u8 0,.int .u8 0,.int .u8 2,.int .u8 0,.int .u8 0,.int .u8 0,.int .u8 0,.int .u8 0,.int .u8 0,.int .u8 0,.int .u8 0,.int .u8 0,.int .u8 0,.int .u8 0,.int .u8 0,.int .u8 1,.int .u16 0,.int .u16 2048,.int .u8 0,.int .i64 8]] w (NewE w 32 (spL wkS1) 0)):=Lib.hid fun w=>(wkP1 w).mono fun _ _ h=>h.n wkN1 (spL_byte wkO1)
 have HP2:Hid (∀w,Calls Tryz.prog 15 #[.agg #[.bool true,.int .u8 0,.int .u8 0,.int .u8 0,.int .u8 0,.int .u8 0,.int .u8 0,.int .u8 0,.int .u8 0,.int .u8 0,.int .u8 0,.int .u8 0,.int .u8 0,.int .u8 0,.int .u8 0,.int .u8 0,.int .u8 1,.bool true,.int .u8 0,.int .u8 0,.int .u8 0,.int .u8 0,.int .u8 0,.int .u8 0,.int .u8 0,.int .u8 0,.int .u8 0,.int .u8 0,.int .u8 0,.int .u8 0,.int .u8 0,.int .u8 0,.int .u8 0,.int .u8 2,.int .u8 17,.int .u16 9,.int .u16 53,.int .u8 0,.int .i64 1]] w (NewE w 49 (spL wkS2) 0)):=Lib.hid fun w=>(wkP2 w).mono fun _ _ h=>h.n wkN2 (spL_byte wkO2)
 have HQ:=Lib.hid wkQ
 have H20:=Lib.hid wkB20
 have BX0:=Lib.hid (Bx.start w)
 generalize spL wkS0=L0 at*
 generalize spL wkS1=L1 at*
 generalize spL wkS2=L2 at*
 go_enter Tryz.func9,Tryz.ntmps9
 go_wp2_with fail
 refine BX0.out.ret (wkR0 _ (HE.out.below BX0.out.out)) ?_
 intro u1 hb1 BU1
 have BX1:=Lib.hid (BU1.out.box #[.bool false,.int .u8 10,.int .u8 0,.int .u8 0,.int .u8 1,.int .u8 0,.int .u8 0,.int .u8 0,.int .u8 0,.int .u8 0,.int .u8 0,.int .u8 0,.int .u8 0,.int .u8 0,.int .u8 0,.int .u8 0,.int .u8 0,.bool false,.int .u8 10,.int .u8 0,.int .u8 0,.int .u8 2,.int .u8 0,.int .u8 0,.int .u8 0,.int .u8 0,.int .u8 0,.int .u8 0,.int .u8 0,.int .u8 0,.int .u8 0,.int .u8 0,.int .u8 0,.int .u8 0,.int .u8 6,.int .u16 5,.int .u16 80] 30)
 clear hb1 BU1 BX0
 obtain⟨b1,hq1⟩:∃b,b=u1.heap.size:=⟨_,rfl⟩
 go_wp2_with fail
 rw[←hq1] at BX1⊢
 clear hq1
 generalize u1.alloc _=y1 at*
 refine Calls.mono (HP0.out _) ?_
 rintro e u2 ⟨o0,c0,rfl,hr2,hb2⟩
 have BX2:=Lib.hid (BX1.out.go hb2)
 have HL0_2:=Lib.hid hr2
 clear hb2 hr2 BX1
 go_wp2_with fail
 refine BX2.out.ret (HQ.out o0 c0 _ HL0_2.out) ?_
 intro u3 hb3 BU3
 have BX3:=Lib.hid (BU3.out.box #[.bool false,.int .u8 10,.int .u8 0,.int .u8 0,.int .u8 1,.int .u8 0,.int .u8 0,.int .u8 0,.int .u8 0,.int .u8 0,.int .u8 0,.int .u8 0,.int .u8 0,.int .u8 0,.int .u8 0,.int .u8 0,.int .u8 0,.bool false,.int .u8 10,.int .u8 0,.int .u8 0,.int .u8 2,.int .u8 0,.int .u8 0,.int .u8 0,.int .u8 0,.int .u8 0,.int .u8 0,.int .u8 0,.int .u8 0,.int .u8 0,.int .u8 0,.int .u8 0,.int .u8 0,.int .u8 6,.int .u16 5,.int .u16 80,.int .i64 40,.int .u8 2,.bool false] 32)
 have HL0_3:=Lib.hid ((HL0_2.out.below hb3).alloc (.cells #[.bool false,.int .u8 10,.int .u8 0,.int .u8 0,.int .u8 1,.int .u8 0,.int .u8 0,.int .u8 0,.int .u8 0,.int .u8 0,.int .u8 0,.int .u8 0,.int .u8 0,.int .u8 0,.int .u8 0,.int .u8 0,.int .u8 0,.bool false,.int .u8 10,.int .u8 0,.int .u8 0,.int .u8 2,.int .u8 0,.int .u8 0,.int .u8 0,.int .u8 0,.int .u8 0,.int .u8 0,.int .u8 0,.int .u8 0,.int .u8 0,.int .u8 0,.int .u8 0,.int .u8 0,.int .u8 6,.int .u16 5,.int .u16 80,.int .i64 40,.int .u8 2,.bool false] 32))
 clear hb3 BU3 BX2 HL0_2
 obtain⟨b5,hq3⟩:∃b,b=u3.heap.size:=⟨_,rfl⟩
 go_wp2_with fail
 rw[←hq3] at BX3⊢
 clear hq3
 generalize u3.alloc _=y3 at*
 clear HL0_3
 refine BX3.out.ret (wkR1 _ (HE.out.below BX3.out.out)) ?_
 intro u4 hb4 BU4
 have BX4:=Lib.hid (BU4.out.box #[.bool false,.int .u8 10,.int .u8 0,.int .u8 0,.int .u8 1,.int .u8 0,.int .u8 0,.int .u8 0,.int .u8 0,.int .u8 0,.int .u8 0,.int .u8 0,.int .u8 0,.int .u8 0,.int .u8 0,.int .u8 0,.int .u8 0,.bool false,.int .u8 10,.int .u8 0,.int .u8 0,.int .u8 2,.int .u8 0,.int .u8 0,.int .u8 0,.int .u8 0,.int .u8 0,.int .u8 0,.int .u8 0,.int .u8 0,.int .u8 0,.int .u8 0,.int .u8 0,.int .u8 0,.int .u8 1,.int .u16 0,.int .u16 2048] 30)
 clear hb4 BU4 BX3
 obtain⟨b7,hq4⟩:∃b,b=u4.heap.size:=⟨_,rfl⟩
 go_wp2_with fail
 rw[←hq4] at BX4⊢
 clear hq4
 generalize u4.alloc _=y4 at*
 refine Calls.mono (HP1.out _) ?_
 rintro e u5 ⟨o1,c1,rfl,hr5,hb5⟩
 have BX5:=Lib.hid (BX4.out.go hb5)
 have HL1_5:=Lib.hid hr5
 clear hb5 hr5 BX4
 go_wp2_with fail
 refine BX5.out.ret (wkR2 _ (HE.out.below BX5.out.out)) ?_
 intro u6 hb6 BU6
 have BX6:=Lib.hid (BU6.out.box #[.bool true,.int .u8 0,.int .u8 0,.int .u8 0,.int .u8 0,.int .u8 0,.int .u8 0,.int .u8 0,.int .u8 0,.int .u8 0,.int .u8 0,.int .u8 0,.int .u8 0,.int .u8 0,.int .u8 0,.int .u8 0,.int .u8 1,.bool true,.int .u8 0,.int .u8 0,.int .u8 0,.int .u8 0,.int .u8 0,.int .u8 0,.int .u8 0,.int .u8 0,.int .u8 0,.int .u8 0,.int .u8 0,.int .u8 0,.int .u8 0,.int .u8 0,.int .u8 0,.int .u8 2,.int .u8 17,.int .u16 9,.int .u16 53] 30)
 have HL1_6:=Lib.hid ((HL1_5.out.below hb6).alloc (.cells #[.bool true,.int .u8 0,.int .u8 0,.int .u8 0,.int .u8 0,.int .u8 0,.int .u8 0,.int .u8 0,.int .u8 0,.int .u8 0,.int .u8 0,.int .u8 0,.int .u8 0,.int .u8 0,.int .u8 0,.int .u8 0,.int .u8 1,.bool true,.int .u8 0,.int .u8 0,.int .u8 0,.int .u8 0,.int .u8 0,.int .u8 0,.int .u8 0,.int .u8 0,.int .u8 0,.int .u8 0,.int .u8 0,.int .u8 0,.int .u8 0,.int .u8 0,.int .u8 0,.int .u8 2,.int .u8 17,.int .u16 9,.int .u16 53] 30))
 clear hb6 BU6 BX5 HL1_5
 obtain⟨b11,hq6⟩:∃b,b=u6.heap.size:=⟨_,rfl⟩
 go_wp2_with fail
 rw[←hq6] at BX6⊢
 clear hq6
 generalize u6.alloc _=y6 at*
 refine Calls.mono (HP2.out _) ?_
 rintro e u7 ⟨o2,c2,rfl,hr7,hb7⟩
 have BX7:=Lib.hid (BX6.out.go hb7)
 have HL1_7:=Lib.hid (HL1_6.out.below hb7)
 clear hb7 hr7 BX6 HL1_6
 go_wp2_with fail
 refine BX7.out.ret (wkR3 _ (HE.out.below BX7.out.out)) ?_
 intro u8 hb8 BU8
 have BX8:=Lib.hid (BU8.out.box #[.bool false,.int .u8 0,.int .u8 0,.int .u8 0,.int .u8 0,.int .u8 0,.int .u8 0,.int .u8 0,.int .u8 0,.int .u8 0,.int .u8 0,.int .u8 0,.int .u8 0,.int .u8 0,.int .u8 0,.int .u8 0,.int .u8 0,.bool false,.int .u8 0,.int .u8 0,.int .u8 0,.int .u8 0,.int .u8 0,.int .u8 0,.int .u8 0,.int .u8 0,.int .u8 0,.int .u8 0,.int .u8 0,.int .u8 0,.int .u8 0,.int .u8 0,.int .u8 0,.int .u8 0,.int .u8 0,.int .u16 0,.int .u16 0] 30)
 have HL1_8:=Lib.hid ((HL1_7.out.below hb8).alloc (.cells #[.bool false,.int .u8 0,.int .u8 0,.int .u8 0,.int .u8 0,.int .u8 0,.int .u8 0,.int .u8 0,.int .u8 0,.int .u8 0,.int .u8 0,.int .u8 0,.int .u8 0,.int .u8 0,.int .u8 0,.int .u8 0,.int .u8 0,.bool false,.int .u8 0,.int .u8 0,.int .u8 0,.int .u8 0,.int .u8 0,.int .u8 0,.int .u8 0,.int .u8 0,.int .u8 0,.int .u8 0,.int .u8 0,.int .u8 0,.int .u8 0,.int .u8 0,.int .u8 0,.int .u8 0,.int .u8 0,.int .u16 0,.int .u16 0] 30))
 clear hb8 BU8 BX7 HL1_7
 obtain⟨b15,hq8⟩:∃b,b=u8.heap.size:=⟨_,rfl⟩
 go_wp2_with fail
 rw[←hq8] at BX8⊢
 clear hq8
 generalize u8.alloc _=y8 at*
 refine BX8.out.ret (wkR4 _ (HE.out.below BX8.out.out)) ?_
 intro u9 hb9 BU9
 have BX9:=Lib.hid (BU9.out.box #[.bool false,.int .u8 0,.int .u8 0,.int .u8 0,.int .u8 0,.int .u8 0,.int .u8 0,.int .u8 0,.int .u8 0,.int .u8 0,.int .u8 0,.int .u8 0,.int .u8 0,.int .u8 0,.int .u8 0,.int .u8 0,.int .u8 0,.bool false,.int .u8 0,.int .u8 0,.int .u8 0,.int .u8 0,.int .u8 0,.int .u8 0,.int .u8 0,.int .u8 0,.int .u8 0,.int .u8 0,.int .u8 0,.int .u8 0,.int .u8 0,.int .u8 0,.int .u8 0,.int .u8 0,.int .u8 0,.int .u16 0,.int .u16 0] 30)
 have HL1:=Lib.hid ((HL1_8.out.below hb9).alloc (.cells #[.bool false,.int .u8 0,.int .u8 0,.int .u8 0,.int .u8 0,.int .u8 0,.int .u8 0,.int .u8 0,.int .u8 0,.int .u8 0,.int .u8 0,.int .u8 0,.int .u8 0,.int .u8 0,.int .u8 0,.int .u8 0,.int .u8 0,.bool false,.int .u8 0,.int .u8 0,.int .u8 0,.int .u8 0,.int .u8 0,.int .u8 0,.int .u8 0,.int .u8 0,.int .u8 0,.int .u8 0,.int .u8 0,.int .u8 0,.int .u8 0,.int .u8 0,.int .u8 0,.int .u8 0,.int .u8 0,.int .u16 0,.int .u16 0] 30))
 clear hb9 BU9 BX8 HL1_8
 obtain⟨g,off,hg,hgl,hgc⟩:=HL1.out.here (by decide)
 subst hg
 have c20:=hgc 20 (by decide)
 rw[H20.out] at c20
 have p5:=BX9.out.part (n:=40) 4 rfl rfl
 have p1:=BX9.out.part (n:=37) 5 rfl rfl
 have l5:=BX9.out.lt 4 rfl
 have l1:=BX9.out.lt 5 rfl
 clear hgc
 go_wp2_with fail
 go_ret
 exact .mk rfl BX9.out.out
open Go.RowKit Bits
theorem rlength_any (p a b f ty cd:Int)(D:ByteArray)(n:Nat)(hD:D.size=n)(hn:n≤100000)(w:World):
 Calls Tryz.prog 99 #[.agg #[.int .u8 p,.int .u16 a,.int .u16 b,.int .u32 0,.int .u32 0,.int .u8 f,.int .u16 0,.int .u16 0,.string ⟨#[]⟩,.int .u8 ty,.int .u8 cd,.string D]] w (RetAt w (.int .i64 ((tHead p:Int)+(n:Int)))):=by
 have HH:Hid (∀w',Calls Tryz.prog 96 #[.int .u8 p] w' (RetAt w' (.int .i64 (tHead p:Int)))):=Lib.hid (fun w'=>rhead_any p w')
 have hb:tHead p≤20:=by unfold tHead;split;decide;split;decide;split;decide;decide
 generalize tHead p=H at*
 have h0:(0:Int)≤(H:Int)+(n:Int):=by omega
 have h1:(H:Int)+(n:Int)≤1000000:=by omega
 have hB0:Below w.heap.size w (w.alloc (.cells #[.int .u8 p,.int .u16 a,.int .u16 b,.int .u32 0,.int .u32 0,.int .u8 f,.int .u16 0,.int .u16 0,.string ⟨#[]⟩,.int .u8 ty,.int .u8 cd,.string D] 102)):=Below.all (Below.refl _ _) _
 have HX:=Lib.hid (heap_alloc_new w (.cells #[.int .u8 p,.int .u16 a,.int .u16 b,.int .u32 0,.int .u32 0,.int .u8 f,.int .u16 0,.int .u16 0,.string ⟨#[]⟩,.int .u8 ty,.int .u8 cd,.string D] 102))
 go_enter Tryz.func99,Tryz.ntmps99
 go_wp2_with fail
 generalize hy:w.alloc (.cells #[.int .u8 p,.int .u16 a,.int .u16 b,.int .u32 0,.int .u32 0,.int .u8 f,.int .u16 0,.int .u16 0,.string ⟨#[]⟩,.int .u8 ty,.int .u8 cd,.string D] 102)=y at*
 obtain⟨b0,hb0⟩:∃b,b=w.heap.size:=⟨_,rfl⟩
 rw[←hb0] at HX⊢
 have hl0:b0<y.heap.size:=(Array.getElem?_eq_some_iff.1 HX.out).1
 have c0:=cell_of_row _ _ 0 _ _ (0,0) HX.out
 have c8:=cell_of_row _ _ 8 _ _ (0,0) HX.out
 have c11:=cell_of_row _ _ 11 _ _ (0,0) HX.out
 have HB0:=Lib.hid hB0
 clear hB0 hy hb0
 refine wp_region_later (by kernel_rfl) (by kernel_rfl) ?_
 repeat go_big_quiet_step ((with_reducible exact later_call (HH.out _)))
 refine wpQuiet_nil ?_
 intro x
 go_wp2_with fail
 go_ret
 exact .mk rfl (HB0.out.trans (x.below.mono HB0.out.size))
theorem rstands_tcp (a b f N:Int)(data:List Int)(c:Int)(hdt:IsBytes data)(hn:data.length≤60000)(ha:0≤a∧a<65536)(hb:0≤b∧b<65536)(hf:0≤f∧f<256)(hc:0≤c∧c<65536)(w:World):
 Calls Tryz.prog 101 #[.agg #[.int .u8 6,.int .u16 a,.int .u16 b,.int .u32 0,.int .u32 0,.int .u8 f,.int .u16 0,.int .u16 0,.string ⟨#[]⟩,.int .u8 0,.int .u8 0,.string (strOfNums data)],.int .u16 c] w (RetAt w (.string (strOfNums (tStands 6 a b f N c data)))):=by
 obtain⟨A,hA⟩:∃S,S=strOfNums (be2 a):=⟨_,rfl⟩
 have sA:A.size=2:=by rw[hA,strOfNums_size];rfl
 have HA:Hid (∀w',Calls Tryz.prog 154 #[.int .u16 a] w' (RetAt w' (.string A))):=Lib.hid (fun w'=>hA▸rtwo_any a ha w')
 obtain⟨B,hB⟩:∃S,S=strOfNums (be2 b):=⟨_,rfl⟩
 have sB:B.size=2:=by rw[hB,strOfNums_size];rfl
 have HB:Hid (∀w',Calls Tryz.prog 154 #[.int .u16 b] w' (RetAt w' (.string B))):=Lib.hid (fun w'=>hB▸rtwo_any b hb w')
 obtain⟨Z4,hZ4⟩:∃S,S=strOfNums (be4 0):=⟨_,rfl⟩
 have sZ4:Z4.size=4:=by rw[hZ4,strOfNums_size];rfl
 have HZ4:Hid (∀w',Calls Tryz.prog 155 #[.int .u32 0] w' (RetAt w' (.string Z4))):=Lib.hid (fun w'=>hZ4▸rfour_any 0 (by decide) w')
 obtain⟨O,hO⟩:∃S,S=strOfNums ([80]):=⟨_,rfl⟩
 have sO:O.size=1:=by rw[hO,strOfNums_size];rfl
 have HO:Hid (∀w',Calls Tryz.prog 153 #[.int .u8 80] w' (RetAt w' (.string O))):=Lib.hid (fun w'=>hO▸rone_any 80 (by decide) w')
 obtain⟨F,hF⟩:∃S,S=strOfNums ([f]):=⟨_,rfl⟩
 have sF:F.size=1:=by rw[hF,strOfNums_size];rfl
 have HF:Hid (∀w',Calls Tryz.prog 153 #[.int .u8 f] w' (RetAt w' (.string F))):=Lib.hid (fun w'=>hF▸rone_any f hf w')
 obtain⟨Z2,hZ2⟩:∃S,S=strOfNums (be2 0):=⟨_,rfl⟩
 have sZ2:Z2.size=2:=by rw[hZ2,strOfNums_size];rfl
 have HZ2:Hid (∀w',Calls Tryz.prog 154 #[.int .u16 0] w' (RetAt w' (.string Z2))):=Lib.hid (fun w'=>hZ2▸rtwo_any 0 (by decide) w')
 obtain⟨C,hC⟩:∃S,S=strOfNums (be2 c):=⟨_,rfl⟩
 have sC:C.size=2:=by rw[hC,strOfNums_size];rfl
 have HC:Hid (∀w',Calls Tryz.prog 154 #[.int .u16 c] w' (RetAt w' (.string C))):=Lib.hid (fun w'=>hC▸rtwo_any c hc w')
 obtain⟨D,hD⟩:∃S,S=strOfNums data:=⟨_,rfl⟩
 have sD:D.size=data.length:=by rw[hD,strOfNums_size]
 have HV:Hid (strOfNums (tStands 6 a b f N c data)=A++B++Z4++Z4++O++F++Z2++C++Z2++⟨#[]⟩++D):=Lib.hid (by rw[hA,hB,hZ4,hO,hF,hZ2,hC,hD];rw[show(⟨#[]⟩:ByteArray)=strOfNums [] from rfl];simp only[strN_append];congr 1)
 rw[HV.out,←hD]
 clear HV hD hA hB hZ4 hO hF hZ2 hC
 generalize data.length=n at*
 have hB0:Below w.heap.size w (w.alloc (.cells #[.int .u8 6,.int .u16 a,.int .u16 b,.int .u32 0,.int .u32 0,.int .u8 f,.int .u16 0,.int .u16 0,.string ⟨#[]⟩,.int .u8 0,.int .u8 0,.string D] 102)):=Below.all (Below.refl _ _) _
 have HX:=Lib.hid (heap_alloc_new w (.cells #[.int .u8 6,.int .u16 a,.int .u16 b,.int .u32 0,.int .u32 0,.int .u8 f,.int .u16 0,.int .u16 0,.string ⟨#[]⟩,.int .u8 0,.int .u8 0,.string D] 102))
 go_enter Tryz.func101,Tryz.ntmps101
 go_wp2_with fail
 generalize hy:w.alloc (.cells #[.int .u8 6,.int .u16 a,.int .u16 b,.int .u32 0,.int .u32 0,.int .u8 f,.int .u16 0,.int .u16 0,.string ⟨#[]⟩,.int .u8 0,.int .u8 0,.string D] 102)=y at*
 obtain⟨b0,hb0⟩:∃b,b=w.heap.size:=⟨_,rfl⟩
 rw[←hb0] at HX⊢
 have hl0:b0<y.heap.size:=(Array.getElem?_eq_some_iff.1 HX.out).1
 have c1:=cell_of_row _ _ 1 _ _ (0,0) HX.out
 have c2:=cell_of_row _ _ 2 _ _ (0,0) HX.out
 have c3:=cell_of_row _ _ 3 _ _ (0,0) HX.out
 have c4:=cell_of_row _ _ 4 _ _ (0,0) HX.out
 have c5:=cell_of_row _ _ 5 _ _ (0,0) HX.out
 have c6:=cell_of_row _ _ 6 _ _ (0,0) HX.out
 have c7:=cell_of_row _ _ 7 _ _ (0,0) HX.out
 have c8:=cell_of_row _ _ 8 _ _ (0,0) HX.out
 have c11:=cell_of_row _ _ 11 _ _ (0,0) HX.out
 have HB0:=Lib.hid hB0
 clear hB0 hy hb0
 refine wp_region_later (by kernel_rfl) (by kernel_rfl) ?_
 repeat go_big_quiet_step ((first|(with_reducible exact later_call (HA.out _))|(with_reducible exact later_call (HB.out _))|(with_reducible exact later_call (HZ4.out _))|(with_reducible exact later_call (HO.out _))|(with_reducible exact later_call (HF.out _))|(with_reducible exact later_call (HZ2.out _))|(with_reducible exact later_call (HC.out _))))
 refine wpQuiet_nil ?_
 intro x
 go_wp2_with fail
 go_ret
 exact .mk rfl (HB0.out.trans (x.below.mono HB0.out.size))
theorem rstands_udp (a b:Int)(data:List Int)(c:Int)(hdt:IsBytes data)(hn:data.length≤60000)(ha:0≤a∧a<65536)(hb:0≤b∧b<65536)(hc:0≤c∧c<65536)(w:World):
 Calls Tryz.prog 101 #[.agg #[.int .u8 17,.int .u16 a,.int .u16 b,.int .u32 0,.int .u32 0,.int .u8 0,.int .u16 0,.int .u16 0,.string ⟨#[]⟩,.int .u8 0,.int .u8 0,.string (strOfNums data)],.int .u16 c] w (RetAt w (.string (strOfNums (tStands 17 a b 0 (8+(data.length:Int)) c data)))):=by
 obtain⟨A,hA⟩:∃S,S=strOfNums (be2 a):=⟨_,rfl⟩
 have sA:A.size=2:=by rw[hA,strOfNums_size];rfl
 have HA:Hid (∀w',Calls Tryz.prog 154 #[.int .u16 a] w' (RetAt w' (.string A))):=Lib.hid (fun w'=>hA▸rtwo_any a ha w')
 obtain⟨B,hB⟩:∃S,S=strOfNums (be2 b):=⟨_,rfl⟩
 have sB:B.size=2:=by rw[hB,strOfNums_size];rfl
 have HB:Hid (∀w',Calls Tryz.prog 154 #[.int .u16 b] w' (RetAt w' (.string B))):=Lib.hid (fun w'=>hB▸rtwo_any b hb w')
 obtain⟨N,hN⟩:∃S,S=strOfNums (be2 (8+(data.length:Int))):=⟨_,rfl⟩
 have sN:N.size=2:=by rw[hN,strOfNums_size];rfl
 have HN:Hid (∀w',Calls Tryz.prog 154 #[.int .u16 (8+(data.length:Int))] w' (RetAt w' (.string N))):=Lib.hid (fun w'=>hN▸rtwo_any _ (by omega) w')
 obtain⟨C,hC⟩:∃S,S=strOfNums (be2 c):=⟨_,rfl⟩
 have sC:C.size=2:=by rw[hC,strOfNums_size];rfl
 have HC:Hid (∀w',Calls Tryz.prog 154 #[.int .u16 c] w' (RetAt w' (.string C))):=Lib.hid (fun w'=>hC▸rtwo_any c hc w')
 obtain⟨D,hD⟩:∃S,S=strOfNums data:=⟨_,rfl⟩
 have sD:D.size=data.length:=by rw[hD,strOfNums_size]
 have HV:Hid (strOfNums (tStands 17 a b 0 (8+(data.length:Int)) c data)=A++B++N++C++D):=Lib.hid (by rw[hA,hB,hN,hC,hD];simp only[strN_append];congr 1)
 rw[HV.out,←hD]
 clear HV hD hA hB hN hC
 generalize data.length=n at*
 have hB0:Below w.heap.size w (w.alloc (.cells #[.int .u8 17,.int .u16 a,.int .u16 b,.int .u32 0,.int .u32 0,.int .u8 0,.int .u16 0,.int .u16 0,.string ⟨#[]⟩,.int .u8 0,.int .u8 0,.string D] 102)):=Below.all (Below.refl _ _) _
 have HX:=Lib.hid (heap_alloc_new w (.cells #[.int .u8 17,.int .u16 a,.int .u16 b,.int .u32 0,.int .u32 0,.int .u8 0,.int .u16 0,.int .u16 0,.string ⟨#[]⟩,.int .u8 0,.int .u8 0,.string D] 102))
 go_enter Tryz.func101,Tryz.ntmps101
 go_wp2_with fail
 generalize hy:w.alloc (.cells #[.int .u8 17,.int .u16 a,.int .u16 b,.int .u32 0,.int .u32 0,.int .u8 0,.int .u16 0,.int .u16 0,.string ⟨#[]⟩,.int .u8 0,.int .u8 0,.string D] 102)=y at*
 obtain⟨b0,hb0⟩:∃b,b=w.heap.size:=⟨_,rfl⟩
 rw[←hb0] at HX⊢
 have hl0:b0<y.heap.size:=(Array.getElem?_eq_some_iff.1 HX.out).1
 have c1:=cell_of_row _ _ 1 _ _ (0,0) HX.out
 have c2:=cell_of_row _ _ 2 _ _ (0,0) HX.out
 have c11:=cell_of_row _ _ 11 _ _ (0,0) HX.out
 have HB0:=Lib.hid hB0
 clear hB0 hy hb0
 refine wp_region_later (by kernel_rfl) (by kernel_rfl) ?_
 repeat go_big_quiet_step ((first|(with_reducible exact later_call (HA.out _))|(with_reducible exact later_call (HB.out _))|(with_reducible exact later_call (HN.out _))|(with_reducible exact later_call (HC.out _))))
 refine wpQuiet_nil ?_
 intro x
 go_wp2_with fail
 go_ret
 exact .mk rfl (HB0.out.trans (x.below.mono HB0.out.size))
theorem rstands_icmp (p a b N:Int)(data:List Int)(c:Int)(hdt:IsBytes data)(hn:data.length≤60000)(hp:p=1∨p=58)(ha:0≤a∧a<256)(hb:0≤b∧b<256)(hc:0≤c∧c<65536)(w:World):
 Calls Tryz.prog 101 #[.agg #[.int .u8 p,.int .u16 0,.int .u16 0,.int .u32 0,.int .u32 0,.int .u8 0,.int .u16 0,.int .u16 0,.string ⟨#[]⟩,.int .u8 a,.int .u8 b,.string (strOfNums data)],.int .u16 c] w (RetAt w (.string (strOfNums (tStands p a b 0 N c data)))):=by
 obtain⟨A,hA⟩:∃S,S=strOfNums ([a]):=⟨_,rfl⟩
 have sA:A.size=1:=by rw[hA,strOfNums_size];rfl
 have HA:Hid (∀w',Calls Tryz.prog 153 #[.int .u8 a] w' (RetAt w' (.string A))):=Lib.hid (fun w'=>hA▸rone_any a ha w')
 obtain⟨B,hB⟩:∃S,S=strOfNums ([b]):=⟨_,rfl⟩
 have sB:B.size=1:=by rw[hB,strOfNums_size];rfl
 have HB:Hid (∀w',Calls Tryz.prog 153 #[.int .u8 b] w' (RetAt w' (.string B))):=Lib.hid (fun w'=>hB▸rone_any b hb w')
 obtain⟨C,hC⟩:∃S,S=strOfNums (be2 c):=⟨_,rfl⟩
 have sC:C.size=2:=by rw[hC,strOfNums_size];rfl
 have HC:Hid (∀w',Calls Tryz.prog 154 #[.int .u16 c] w' (RetAt w' (.string C))):=Lib.hid (fun w'=>hC▸rtwo_any c hc w')
 obtain⟨D,hD⟩:∃S,S=strOfNums data:=⟨_,rfl⟩
 have sD:D.size=data.length:=by rw[hD,strOfNums_size]
 have HV:Hid (strOfNums (tStands p a b 0 N c data)=A++B++C++D):=Lib.hid (by rw[hA,hB,hC,hD];rcases hp with rfl|rfl<;>(simp only[strN_append];congr 1))
 rw[HV.out,←hD]
 clear HV hD hA hB hC
 generalize data.length=n at*
 have b6:(p==6)=false:=by rcases hp with rfl|rfl<;>rfl
 have b17:(p==17)=false:=by rcases hp with rfl|rfl<;>rfl
 have hB0:Below w.heap.size w (w.alloc (.cells #[.int .u8 p,.int .u16 0,.int .u16 0,.int .u32 0,.int .u32 0,.int .u8 0,.int .u16 0,.int .u16 0,.string ⟨#[]⟩,.int .u8 a,.int .u8 b,.string D] 102)):=Below.all (Below.refl _ _) _
 have HX:=Lib.hid (heap_alloc_new w (.cells #[.int .u8 p,.int .u16 0,.int .u16 0,.int .u32 0,.int .u32 0,.int .u8 0,.int .u16 0,.int .u16 0,.string ⟨#[]⟩,.int .u8 a,.int .u8 b,.string D] 102))
 go_enter Tryz.func101,Tryz.ntmps101
 go_wp2_with fail
 generalize hy:w.alloc (.cells #[.int .u8 p,.int .u16 0,.int .u16 0,.int .u32 0,.int .u32 0,.int .u8 0,.int .u16 0,.int .u16 0,.string ⟨#[]⟩,.int .u8 a,.int .u8 b,.string D] 102)=y at*
 obtain⟨b0,hb0⟩:∃b,b=w.heap.size:=⟨_,rfl⟩
 rw[←hb0] at HX⊢
 have hl0:b0<y.heap.size:=(Array.getElem?_eq_some_iff.1 HX.out).1
 have c9:=cell_of_row _ _ 9 _ _ (0,0) HX.out
 have c10:=cell_of_row _ _ 10 _ _ (0,0) HX.out
 have c11:=cell_of_row _ _ 11 _ _ (0,0) HX.out
 have HB0:=Lib.hid hB0
 clear hB0 hy hb0
 refine wp_region_later (by kernel_rfl) (by kernel_rfl) ?_
 repeat go_big_quiet_step ((first|(with_reducible exact later_call (HA.out _))|(with_reducible exact later_call (HB.out _))|(with_reducible exact later_call (HC.out _))))
 refine wpQuiet_nil ?_
 intro x
 go_wp2_with fail
 go_ret
 exact .mk rfl (HB0.out.trans (x.below.mono HB0.out.size))
theorem rpseudo_four (p n:Int)(src dst:List Int)(hs:src.length=4)(hd:dst.length=4)(hp:0≤p∧p<256)(hn:0≤n∧n<65536)(w:World):
 Calls Tryz.prog 98 #[.int .u8 p,.int .i64 n,.string (strOfNums src),.string (strOfNums dst)] w (RetAt w (.tuple #[.string (strOfNums (pseudoL p n src dst)),.bool true])):=by
 by_cases h1:p=1
 ·subst h1
  have HV:Hid (strOfNums (pseudoL 1 n src dst)=⟨#[]⟩):=Lib.hid rfl
  rw[HV.out]
  have ss:(strOfNums src).size=4:=by rw[strOfNums_size,hs]
  have sd:(strOfNums dst).size=4:=by rw[strOfNums_size,hd]
  generalize strOfNums src=S at*
  generalize strOfNums dst=T at*
  go_enter Tryz.func98,Tryz.ntmps98
  go_wp2_with fail
  go_ret2
  exact .mk rfl (Below.refl _ _)
 have b1:(p==1)=false:=by simpa using h1
 obtain⟨Z,hZ⟩:∃S,S=strOfNums ([0]):=⟨_,rfl⟩
 have sZ:Z.size=1:=by rw[hZ,strOfNums_size];rfl
 have HZ:Hid (∀w',Calls Tryz.prog 153 #[.int .u8 0] w' (RetAt w' (.string Z))):=Lib.hid (fun w'=>hZ▸rone_any 0 (by decide) w')
 obtain⟨P,hP⟩:∃S,S=strOfNums ([p]):=⟨_,rfl⟩
 have sP:P.size=1:=by rw[hP,strOfNums_size];rfl
 have HP:Hid (∀w',Calls Tryz.prog 153 #[.int .u8 p] w' (RetAt w' (.string P))):=Lib.hid (fun w'=>hP▸rone_any p hp w')
 obtain⟨M,hM⟩:∃S,S=strOfNums (be2 n):=⟨_,rfl⟩
 have sM:M.size=2:=by rw[hM,strOfNums_size];rfl
 have HM:Hid (∀w',Calls Tryz.prog 154 #[.int .u16 n] w' (RetAt w' (.string M))):=Lib.hid (fun w'=>hM▸rtwo_any n hn w')
 have HV:Hid (strOfNums (pseudoL p n src dst)=strOfNums src++strOfNums dst++Z++P++M):=Lib.hid (by rw[hZ,hP,hM];simp only[strN_append];unfold pseudoL;rw[if_neg h1,if_pos hs];congr 1;simp)
 rw[HV.out]
 have ss:(strOfNums src).size=4:=by rw[strOfNums_size,hs]
 have sd:(strOfNums dst).size=4:=by rw[strOfNums_size,hd]
 clear HV hZ hP hM
 generalize strOfNums src=S at*
 generalize strOfNums dst=T at*
 go_enter Tryz.func98,Tryz.ntmps98
 go_wp2_with fail
 refine Calls.mono (HZ.out _) ?_
 rintro e w1 ⟨rfl,hb1⟩
 go_wp2_with fail
 refine Calls.mono (HP.out _) ?_
 rintro e w2 ⟨rfl,hb2⟩
 go_wp2_with fail
 refine Calls.mono (HM.out _) ?_
 rintro e w3 ⟨rfl,hb3⟩
 go_wp2_with fail
 go_ret2
 exact .mk rfl (Below.via (Below.via hb1 hb2) hb3)
theorem rpseudo_six (p n:Int)(src dst:List Int)(hs:src.length=16)(hd:dst.length=16)(hp:0≤p∧p<256)(hn:0≤n∧n<65536)(w:World):
 Calls Tryz.prog 98 #[.int .u8 p,.int .i64 n,.string (strOfNums src),.string (strOfNums dst)] w (RetAt w (.tuple #[.string (strOfNums (pseudoL p n src dst)),.bool true])):=by
 by_cases h1:p=1
 ·subst h1
  have HV:Hid (strOfNums (pseudoL 1 n src dst)=⟨#[]⟩):=Lib.hid rfl
  rw[HV.out]
  have ss:(strOfNums src).size=16:=by rw[strOfNums_size,hs]
  have sd:(strOfNums dst).size=16:=by rw[strOfNums_size,hd]
  generalize strOfNums src=S at*
  generalize strOfNums dst=T at*
  go_enter Tryz.func98,Tryz.ntmps98
  go_wp2_with fail
  go_ret2
  exact .mk rfl (Below.refl _ _)
 have b1:(p==1)=false:=by simpa using h1
 obtain⟨M,hM⟩:∃S,S=strOfNums (be4 n):=⟨_,rfl⟩
 have sM:M.size=4:=by rw[hM,strOfNums_size];rfl
 have HM:Hid (∀w',Calls Tryz.prog 155 #[.int .u32 n] w' (RetAt w' (.string M))):=Lib.hid (fun w'=>hM▸rfour_any n (by omega) w')
 obtain⟨P,hP⟩:∃S,S=strOfNums (be4 p):=⟨_,rfl⟩
 have sP:P.size=4:=by rw[hP,strOfNums_size];rfl
 have HP:Hid (∀w',Calls Tryz.prog 155 #[.int .u32 p] w' (RetAt w' (.string P))):=Lib.hid (fun w'=>hP▸rfour_any p (by omega) w')
 have HV:Hid (strOfNums (pseudoL p n src dst)=strOfNums src++strOfNums dst++M++P):=Lib.hid (by rw[hM,hP];simp only[strN_append];unfold pseudoL;rw[if_neg h1,if_neg (by omega)];congr 1;unfold be4 be2;simp;omega)
 rw[HV.out]
 have ss:(strOfNums src).size=16:=by rw[strOfNums_size,hs]
 have sd:(strOfNums dst).size=16:=by rw[strOfNums_size,hd]
 clear HV hM hP
 generalize strOfNums src=S at*
 generalize strOfNums dst=T at*
 go_enter Tryz.func98,Tryz.ntmps98
 go_wp2_with fail
 refine Calls.mono (HM.out _) ?_
 rintro e w1 ⟨rfl,hb1⟩
 go_wp2_with fail
 refine Calls.mono (HP.out _) ?_
 rintro e w2 ⟨rfl,hb2⟩
 go_wp2_with fail
 go_ret2
 exact .mk rfl (Below.via hb1 hb2)
open Go.RowKit Bits
theorem rtright_tcp (a b f:Int)(D:ByteArray)(n:Nat)(hD:D.size=n)(hn:n≤60000)(w:World):
 Calls Tryz.prog 97 #[.agg #[.int .u8 6,.int .u16 a,.int .u16 b,.int .u32 0,.int .u32 0,.int .u8 f,.int .u16 0,.int .u16 0,.string ⟨#[]⟩,.int .u8 0,.int .u8 0,.string D]] w (RetAt w (.bool true)):=by
 have HH:Hid (∀w',Calls Tryz.prog 96 #[.int .u8 6] w' (RetAt w' (.int .i64 (tHead 6:Int)))):=Lib.hid (fun w'=>rhead_any 6 w')
 have HL:Hid (∀w',Calls Tryz.prog 99 #[.agg #[.int .u8 6,.int .u16 a,.int .u16 b,.int .u32 0,.int .u32 0,.int .u8 f,.int .u16 0,.int .u16 0,.string ⟨#[]⟩,.int .u8 0,.int .u8 0,.string D]] w' (RetAt w' (.int .i64 ((tHead 6:Int)+(n:Int))))):=Lib.hid (fun w'=>rlength_any 6 a b f 0 0 D n hD (by omega) w')
 have hb1:1≤tHead 6∧tHead 6≤20:=by decide
 generalize tHead 6=H at*
 have hz:((H:Int)==0)=false:=by simp;omega
 have hle:decide (((H:Int)+(n:Int))>65535)=false:=by simp;omega
 have hle2:decide ((65535:Int)<((H:Int)+(n:Int)))=false:=by simp;omega
 have hB0:Below w.heap.size w (w.alloc (.cells #[.int .u8 6,.int .u16 a,.int .u16 b,.int .u32 0,.int .u32 0,.int .u8 f,.int .u16 0,.int .u16 0,.string ⟨#[]⟩,.int .u8 0,.int .u8 0,.string D] 102)):=Below.all (Below.refl _ _) _
 have HX:=Lib.hid (heap_alloc_new w (.cells #[.int .u8 6,.int .u16 a,.int .u16 b,.int .u32 0,.int .u32 0,.int .u8 f,.int .u16 0,.int .u16 0,.string ⟨#[]⟩,.int .u8 0,.int .u8 0,.string D] 102))
 by_cases hf:f=0
 ·subst hf
  go_enter Tryz.func97,Tryz.ntmps97
  go_wp2_with fail
  generalize w.alloc (.cells #[.int .u8 6,.int .u16 a,.int .u16 b,.int .u32 0,.int .u32 0,.int .u8 0,.int .u16 0,.int .u16 0,.string ⟨#[]⟩,.int .u8 0,.int .u8 0,.string D] 102)=y at*
  refine Calls.mono (HH.out _) ?_
  rintro e y1 ⟨rfl,hb⟩
  have HX1:=Lib.hid ((hb.block _ (Array.getElem?_eq_some_iff.1 HX.out).1).trans HX.out)
  have HB1:=Lib.hid (Below.via hB0 hb)
  have hpt:partOf y1 w.heap.size 0 12=#[.int .u8 6,.int .u16 a,.int .u16 b,.int .u32 0,.int .u32 0,.int .u8 0,.int .u16 0,.int .u16 0,.string ⟨#[]⟩,.int .u8 0,.int .u8 0,.string D]:=partOf_all HX1.out rfl
  clear hb HX hB0
  go_wp2_with fail
  refine Calls.mono (HL.out _) ?_
  rintro e y2 ⟨rfl,hb⟩
  have HX2:=Lib.hid ((hb.block _ (Array.getElem?_eq_some_iff.1 HX1.out).1).trans HX1.out)
  have HB2:=Lib.hid (Below.via HB1.out hb)
  have c0:=cell_of_row _ _ 0 _ _ (0,0) HX2.out
  have c1:=cell_of_row _ _ 1 _ _ (0,0) HX2.out
  have c2:=cell_of_row _ _ 2 _ _ (0,0) HX2.out
  have c3:=cell_of_row _ _ 3 _ _ (0,0) HX2.out
  have c4:=cell_of_row _ _ 4 _ _ (0,0) HX2.out
  have c5:=cell_of_row _ _ 5 _ _ (0,0) HX2.out
  have c6:=cell_of_row _ _ 6 _ _ (0,0) HX2.out
  have c7:=cell_of_row _ _ 7 _ _ (0,0) HX2.out
  have c8:=cell_of_row _ _ 8 _ _ (0,0) HX2.out
  have c9:=cell_of_row _ _ 9 _ _ (0,0) HX2.out
  have c10:=cell_of_row _ _ 10 _ _ (0,0) HX2.out
  clear hb HX1 HB1 hpt
  go_wp2_with fail
  go_ret
  exact .mk (by kernel_rfl) HB2.out
 ·have hf':(f==0)=false:=by simpa using hf
  go_enter Tryz.func97,Tryz.ntmps97
  go_wp2_with fail
  generalize w.alloc (.cells #[.int .u8 6,.int .u16 a,.int .u16 b,.int .u32 0,.int .u32 0,.int .u8 f,.int .u16 0,.int .u16 0,.string ⟨#[]⟩,.int .u8 0,.int .u8 0,.string D] 102)=y at*
  refine Calls.mono (HH.out _) ?_
  rintro e y1 ⟨rfl,hb⟩
  have HX1:=Lib.hid ((hb.block _ (Array.getElem?_eq_some_iff.1 HX.out).1).trans HX.out)
  have HB1:=Lib.hid (Below.via hB0 hb)
  have hpt:partOf y1 w.heap.size 0 12=#[.int .u8 6,.int .u16 a,.int .u16 b,.int .u32 0,.int .u32 0,.int .u8 f,.int .u16 0,.int .u16 0,.string ⟨#[]⟩,.int .u8 0,.int .u8 0,.string D]:=partOf_all HX1.out rfl
  clear hb HX hB0
  go_wp2_with fail
  refine Calls.mono (HL.out _) ?_
  rintro e y2 ⟨rfl,hb⟩
  have HX2:=Lib.hid ((hb.block _ (Array.getElem?_eq_some_iff.1 HX1.out).1).trans HX1.out)
  have HB2:=Lib.hid (Below.via HB1.out hb)
  have c0:=cell_of_row _ _ 0 _ _ (0,0) HX2.out
  have c1:=cell_of_row _ _ 1 _ _ (0,0) HX2.out
  have c2:=cell_of_row _ _ 2 _ _ (0,0) HX2.out
  have c3:=cell_of_row _ _ 3 _ _ (0,0) HX2.out
  have c4:=cell_of_row _ _ 4 _ _ (0,0) HX2.out
  have c5:=cell_of_row _ _ 5 _ _ (0,0) HX2.out
  have c6:=cell_of_row _ _ 6 _ _ (0,0) HX2.out
  have c7:=cell_of_row _ _ 7 _ _ (0,0) HX2.out
  have c8:=cell_of_row _ _ 8 _ _ (0,0) HX2.out
  have c9:=cell_of_row _ _ 9 _ _ (0,0) HX2.out
  have c10:=cell_of_row _ _ 10 _ _ (0,0) HX2.out
  clear hb HX1 HB1 hpt
  go_wp2_with fail
  go_ret
  exact .mk (by kernel_rfl) HB2.out
theorem rtright_udp (a b:Int)(D:ByteArray)(n:Nat)(hD:D.size=n)(hn:n≤60000)(w:World):
 Calls Tryz.prog 97 #[.agg #[.int .u8 17,.int .u16 a,.int .u16 b,.int .u32 0,.int .u32 0,.int .u8 0,.int .u16 0,.int .u16 0,.string ⟨#[]⟩,.int .u8 0,.int .u8 0,.string D]] w (RetAt w (.bool true)):=by
 have HH:Hid (∀w',Calls Tryz.prog 96 #[.int .u8 17] w' (RetAt w' (.int .i64 (tHead 17:Int)))):=Lib.hid (fun w'=>rhead_any 17 w')
 have HL:Hid (∀w',Calls Tryz.prog 99 #[.agg #[.int .u8 17,.int .u16 a,.int .u16 b,.int .u32 0,.int .u32 0,.int .u8 0,.int .u16 0,.int .u16 0,.string ⟨#[]⟩,.int .u8 0,.int .u8 0,.string D]] w' (RetAt w' (.int .i64 ((tHead 17:Int)+(n:Int))))):=Lib.hid (fun w'=>rlength_any 17 a b 0 0 0 D n hD (by omega) w')
 have hb1:1≤tHead 17∧tHead 17≤20:=by decide
 generalize tHead 17=H at*
 have hz:((H:Int)==0)=false:=by simp;omega
 have hle:decide (((H:Int)+(n:Int))>65535)=false:=by simp;omega
 have hle2:decide ((65535:Int)<((H:Int)+(n:Int)))=false:=by simp;omega
 have hB0:Below w.heap.size w (w.alloc (.cells #[.int .u8 17,.int .u16 a,.int .u16 b,.int .u32 0,.int .u32 0,.int .u8 0,.int .u16 0,.int .u16 0,.string ⟨#[]⟩,.int .u8 0,.int .u8 0,.string D] 102)):=Below.all (Below.refl _ _) _
 have HX:=Lib.hid (heap_alloc_new w (.cells #[.int .u8 17,.int .u16 a,.int .u16 b,.int .u32 0,.int .u32 0,.int .u8 0,.int .u16 0,.int .u16 0,.string ⟨#[]⟩,.int .u8 0,.int .u8 0,.string D] 102))
 go_enter Tryz.func97,Tryz.ntmps97
 go_wp2_with fail
 generalize w.alloc (.cells #[.int .u8 17,.int .u16 a,.int .u16 b,.int .u32 0,.int .u32 0,.int .u8 0,.int .u16 0,.int .u16 0,.string ⟨#[]⟩,.int .u8 0,.int .u8 0,.string D] 102)=y at*
 refine Calls.mono (HH.out _) ?_
 rintro e y1 ⟨rfl,hb⟩
 have HX1:=Lib.hid ((hb.block _ (Array.getElem?_eq_some_iff.1 HX.out).1).trans HX.out)
 have HB1:=Lib.hid (Below.via hB0 hb)
 have hpt:partOf y1 w.heap.size 0 12=#[.int .u8 17,.int .u16 a,.int .u16 b,.int .u32 0,.int .u32 0,.int .u8 0,.int .u16 0,.int .u16 0,.string ⟨#[]⟩,.int .u8 0,.int .u8 0,.string D]:=partOf_all HX1.out rfl
 clear hb HX hB0
 go_wp2_with fail
 refine Calls.mono (HL.out _) ?_
 rintro e y2 ⟨rfl,hb⟩
 have HX2:=Lib.hid ((hb.block _ (Array.getElem?_eq_some_iff.1 HX1.out).1).trans HX1.out)
 have HB2:=Lib.hid (Below.via HB1.out hb)
 have c0:=cell_of_row _ _ 0 _ _ (0,0) HX2.out
 have c1:=cell_of_row _ _ 1 _ _ (0,0) HX2.out
 have c2:=cell_of_row _ _ 2 _ _ (0,0) HX2.out
 have c3:=cell_of_row _ _ 3 _ _ (0,0) HX2.out
 have c4:=cell_of_row _ _ 4 _ _ (0,0) HX2.out
 have c5:=cell_of_row _ _ 5 _ _ (0,0) HX2.out
 have c6:=cell_of_row _ _ 6 _ _ (0,0) HX2.out
 have c7:=cell_of_row _ _ 7 _ _ (0,0) HX2.out
 have c8:=cell_of_row _ _ 8 _ _ (0,0) HX2.out
 have c9:=cell_of_row _ _ 9 _ _ (0,0) HX2.out
 have c10:=cell_of_row _ _ 10 _ _ (0,0) HX2.out
 clear hb HX1 HB1 hpt
 go_wp2_with fail
 go_ret
 exact .mk (by kernel_rfl) HB2.out
theorem rtright_icmp (p a b:Int)(D:ByteArray)(n:Nat)(hD:D.size=n)(hn:n≤60000)(hp:p=1∨p=58)(w:World):
 Calls Tryz.prog 97 #[.agg #[.int .u8 p,.int .u16 0,.int .u16 0,.int .u32 0,.int .u32 0,.int .u8 0,.int .u16 0,.int .u16 0,.string ⟨#[]⟩,.int .u8 a,.int .u8 b,.string D]] w (RetAt w (.bool true)):=by
 have HH:Hid (∀w',Calls Tryz.prog 96 #[.int .u8 p] w' (RetAt w' (.int .i64 (tHead p:Int)))):=Lib.hid (fun w'=>rhead_any p w')
 have HL:Hid (∀w',Calls Tryz.prog 99 #[.agg #[.int .u8 p,.int .u16 0,.int .u16 0,.int .u32 0,.int .u32 0,.int .u8 0,.int .u16 0,.int .u16 0,.string ⟨#[]⟩,.int .u8 a,.int .u8 b,.string D]] w' (RetAt w' (.int .i64 ((tHead p:Int)+(n:Int))))):=Lib.hid (fun w'=>rlength_any p 0 0 0 a b D n hD (by omega) w')
 have hb1:1≤tHead p∧tHead p≤20:=by rcases hp with rfl|rfl<;>decide
 generalize tHead p=H at*
 have hz:((H:Int)==0)=false:=by simp;omega
 have hle:decide (((H:Int)+(n:Int))>65535)=false:=by simp;omega
 have hle2:decide ((65535:Int)<((H:Int)+(n:Int)))=false:=by simp;omega
 have hB0:Below w.heap.size w (w.alloc (.cells #[.int .u8 p,.int .u16 0,.int .u16 0,.int .u32 0,.int .u32 0,.int .u8 0,.int .u16 0,.int .u16 0,.string ⟨#[]⟩,.int .u8 a,.int .u8 b,.string D] 102)):=Below.all (Below.refl _ _) _
 have HX:=Lib.hid (heap_alloc_new w (.cells #[.int .u8 p,.int .u16 0,.int .u16 0,.int .u32 0,.int .u32 0,.int .u8 0,.int .u16 0,.int .u16 0,.string ⟨#[]⟩,.int .u8 a,.int .u8 b,.string D] 102))
 have b6:(p==6)=false:=by rcases hp with rfl|rfl<;>rfl
 have b17:(p==17)=false:=by rcases hp with rfl|rfl<;>rfl
 go_enter Tryz.func97,Tryz.ntmps97
 go_wp2_with fail
 generalize w.alloc (.cells #[.int .u8 p,.int .u16 0,.int .u16 0,.int .u32 0,.int .u32 0,.int .u8 0,.int .u16 0,.int .u16 0,.string ⟨#[]⟩,.int .u8 a,.int .u8 b,.string D] 102)=y at*
 refine Calls.mono (HH.out _) ?_
 rintro e y1 ⟨rfl,hb⟩
 have HX1:=Lib.hid ((hb.block _ (Array.getElem?_eq_some_iff.1 HX.out).1).trans HX.out)
 have HB1:=Lib.hid (Below.via hB0 hb)
 have hpt:partOf y1 w.heap.size 0 12=#[.int .u8 p,.int .u16 0,.int .u16 0,.int .u32 0,.int .u32 0,.int .u8 0,.int .u16 0,.int .u16 0,.string ⟨#[]⟩,.int .u8 a,.int .u8 b,.string D]:=partOf_all HX1.out rfl
 clear hb HX hB0
 go_wp2_with fail
 refine Calls.mono (HL.out _) ?_
 rintro e y2 ⟨rfl,hb⟩
 have HX2:=Lib.hid ((hb.block _ (Array.getElem?_eq_some_iff.1 HX1.out).1).trans HX1.out)
 have HB2:=Lib.hid (Below.via HB1.out hb)
 have c0:=cell_of_row _ _ 0 _ _ (0,0) HX2.out
 have c1:=cell_of_row _ _ 1 _ _ (0,0) HX2.out
 have c2:=cell_of_row _ _ 2 _ _ (0,0) HX2.out
 have c3:=cell_of_row _ _ 3 _ _ (0,0) HX2.out
 have c4:=cell_of_row _ _ 4 _ _ (0,0) HX2.out
 have c5:=cell_of_row _ _ 5 _ _ (0,0) HX2.out
 have c6:=cell_of_row _ _ 6 _ _ (0,0) HX2.out
 have c7:=cell_of_row _ _ 7 _ _ (0,0) HX2.out
 have c8:=cell_of_row _ _ 8 _ _ (0,0) HX2.out
 have c9:=cell_of_row _ _ 9 _ _ (0,0) HX2.out
 have c10:=cell_of_row _ _ 10 _ _ (0,0) HX2.out
 clear hb HX1 HB1 hpt
 go_wp2_with fail
 go_ret
 exact .mk (by kernel_rfl) HB2.out
open Go.RowKit Bits
theorem rtput_gen (p x1 x2 x5 x9 x10:Int)(DS SS TS:ByteArray)(m:Nat)(PS:List Int)(STD:Int→List Int)(LEN:Nat)(hH:tHead p≠0)(hm:m≤60000)
 (hR:∀w',Calls Tryz.prog 97 #[.agg #[.int .u8 p,.int .u16 x1,.int .u16 x2,.int .u32 0,.int .u32 0,.int .u8 x5,.int .u16 0,.int .u16 0,.string ⟨#[]⟩,.int .u8 x9,.int .u8 x10,.string DS]] w' (RetAt w' (.bool true)))
 (hL:∀w',Calls Tryz.prog 99 #[.agg #[.int .u8 p,.int .u16 x1,.int .u16 x2,.int .u32 0,.int .u32 0,.int .u8 x5,.int .u16 0,.int .u16 0,.string ⟨#[]⟩,.int .u8 x9,.int .u8 x10,.string DS]] w' (RetAt w' (.int .i64 ((tHead p:Int)+(m:Int)))))
 (hS:∀c w',0≤c→c<65536→Calls Tryz.prog 101 #[.agg #[.int .u8 p,.int .u16 x1,.int .u16 x2,.int .u32 0,.int .u32 0,.int .u8 x5,.int .u16 0,.int .u16 0,.string ⟨#[]⟩,.int .u8 x9,.int .u8 x10,.string DS],.int .u16 c] w' (RetAt w' (.string (strOfNums (STD c)))))
 (hP:∀w',Calls Tryz.prog 98 #[.int .u8 p,.int .i64 ((tHead p:Int)+(m:Int)),.string SS,.string TS] w' (RetAt w' (.tuple #[.string (strOfNums PS),.bool true])))
 (hPS:IsBytes PS)(hPl:PS.length≤1000)(hSB:∀c,IsBytes (STD c)∧(STD c).length=LEN)(hLEN:LEN≤70000)(R:List Int)(hRes:R=STD (if sumOf (PS++STD 0)=0∧p=17 then 65535 else (sumOf (PS++STD 0):Nat)))(w:World):
 Calls Tryz.prog 48 #[.agg #[.int .u8 p,.int .u16 x1,.int .u16 x2,.int .u32 0,.int .u32 0,.int .u8 x5,.int .u16 0,.int .u16 0,.string ⟨#[]⟩,.int .u8 x9,.int .u8 x10,.string DS],.string SS,.string TS] w (BodyPost w R 0):=by
 have HH:Hid (∀w',Calls Tryz.prog 96 #[.int .u8 p] w' (RetAt w' (.int .i64 (tHead p:Int)))):=Lib.hid (fun w'=>rhead_any p w')
 have HR:=Lib.hid hR
 have HL:=Lib.hid hL
 have HS:=Lib.hid hS
 have HP:=Lib.hid hP
 have HSB:=Lib.hid hSB
 have HPB:=Lib.hid hPS
 have hsum:=sumOf_le (PS++STD 0)
 have HOF:Hid (∀(w':World) oa cap,Reads w' oa (PS.length+LEN) cap (PS++STD 0)→Calls Tryz.prog 100 #[.slice oa (PS.length+LEN) cap] w' (RetAt w' (.int .u16 (sumOf (PS++STD 0):Nat)))):=Lib.hid (fun w' oa cap hr=>rof_any oa _ cap _ w' hr (by omega))
 generalize sumOf (PS++STD 0)=c0 at*
 have HRES:=Lib.hid hRes
 clear hRes
 obtain⟨H,hHe⟩:∃H,tHead p=H:=⟨_,rfl⟩
 rw[hHe] at hH HH HL HP
 clear hHe hR hL hS hP hSB hPS
 have hz:((H:Int)==0)=false:=by simp;omega
 have hB0:Below w.heap.size w (w.alloc (.cells #[.int .u8 p,.int .u16 x1,.int .u16 x2,.int .u32 0,.int .u32 0,.int .u8 x5,.int .u16 0,.int .u16 0,.string ⟨#[]⟩,.int .u8 x9,.int .u8 x10,.string DS] 102)):=Below.all (Below.refl _ _) _
 have HX:=Lib.hid (heap_alloc_new w (.cells #[.int .u8 p,.int .u16 x1,.int .u16 x2,.int .u32 0,.int .u32 0,.int .u8 x5,.int .u16 0,.int .u16 0,.string ⟨#[]⟩,.int .u8 x9,.int .u8 x10,.string DS] 102))
 obtain⟨PP,hPP⟩:∃S,strOfNums PS=S:=⟨_,rfl⟩
 have hps:PP.size=PS.length:=by rw[←hPP,strOfNums_size]
 have HPP:=Lib.hid hPP
 rw[hPP] at HP
 clear hPP
 go_enter Tryz.func48,Tryz.ntmps48
 go_wp2_with fail
 generalize w.alloc (.cells #[.int .u8 p,.int .u16 x1,.int .u16 x2,.int .u32 0,.int .u32 0,.int .u8 x5,.int .u16 0,.int .u16 0,.string ⟨#[]⟩,.int .u8 x9,.int .u8 x10,.string DS] 102)=y at*
 refine Calls.mono (HH.out _) ?_
 rintro e y1 ⟨rfl,hb⟩
 have HX1:=Lib.hid ((hb.block _ (Array.getElem?_eq_some_iff.1 HX.out).1).trans HX.out)
 have HB1:=Lib.hid (Below.via hB0 hb)
 have hpt:partOf y1 w.heap.size 0 12=#[.int .u8 p,.int .u16 x1,.int .u16 x2,.int .u32 0,.int .u32 0,.int .u8 x5,.int .u16 0,.int .u16 0,.string ⟨#[]⟩,.int .u8 x9,.int .u8 x10,.string DS]:=partOf_all HX1.out rfl
 clear hb HX hB0
 go_wp2_with fail
 refine Calls.mono (HR.out _) ?_
 rintro e y2 ⟨rfl,hb⟩
 have HX2:=Lib.hid ((hb.block _ (Array.getElem?_eq_some_iff.1 HX1.out).1).trans HX1.out)
 have HB2:=Lib.hid (Below.via HB1.out hb)
 clear hb HX1 HB1 hpt
 obtain⟨b0,hb0⟩:∃b,b=w.heap.size:=⟨_,rfl⟩
 go_wp2_with fail
 rw[←hb0] at HX2⊢
 have hl0:b0<y2.heap.size:=(Array.getElem?_eq_some_iff.1 HX2.out).1
 have hpt:partOf y2 b0 0 12=#[.int .u8 p,.int .u16 x1,.int .u16 x2,.int .u32 0,.int .u32 0,.int .u8 x5,.int .u16 0,.int .u16 0,.string ⟨#[]⟩,.int .u8 x9,.int .u8 x10,.string DS]:=partOf_all HX2.out rfl
 have c0':=cell_of_row _ _ 0 _ _ (0,0) HX2.out
 clear hb0
 refine wp_region_later (by kernel_rfl) (by kernel_rfl) ?_
 repeat go_big_quiet_step ((first|(with_reducible exact later_call (HL.out _))|(with_reducible exact later_call (HP.out _))))
 refine wpQuiet_nil ?_
 intro x
 have HX3:=Lib.hid ((x.below.block _ hl0).trans HX2.out)
 have HB3:=Lib.hid (Below.via HB2.out x.below)
 clear HX2 HB2 hpt c0'
 generalize x.world=y3 at*
 have hl3:b0<y3.heap.size:=(Array.getElem?_eq_some_iff.1 HX3.out).1
 have hpt:partOf y3 b0 0 12=#[.int .u8 p,.int .u16 x1,.int .u16 x2,.int .u32 0,.int .u32 0,.int .u8 x5,.int .u16 0,.int .u16 0,.string ⟨#[]⟩,.int .u8 x9,.int .u8 x10,.string DS]:=partOf_all HX3.out rfl
 go_wp2_with fail
 refine Calls.mono (HS.out 0 _ (by decide) (by decide)) ?_
 rintro e y4 ⟨rfl,hb⟩
 have HX4:=Lib.hid ((hb.block _ hl3).trans HX3.out)
 have HB4:=Lib.hid (Below.via HB3.out hb)
 clear hb HX3 HB3 hpt hl3
 obtain⟨SS0,hSS0⟩:∃S,strOfNums (STD 0)=S:=⟨_,rfl⟩
 have hs0:SS0.size=LEN:=by rw[←hSS0,strOfNums_size,(HSB.out 0).2]
 have HSS0:=Lib.hid hSS0
 rw[hSS0]
 clear hSS0
 go_wp2_with (with_reducible refine stop_tmp 34 ?_)
 refine Stopped.mk ?_
 refine wpList_tobytes _ rfl 9 22 _ rfl 5 Tryz.underlying9 Tryz.underlying22 Tryz.underlying5 (PS++STD 0) (by show Value.string (PP++SS0)=_;rw[←strN_append,HPP.out,HSS0.out]) (isBytes_app HPB.out (HSB.out 0).1) (by rw[List.length_append,(HSB.out 0).2];omega) ?_
 intro c5 y5 hb hr
 have hlb:(PS++STD 0).length=PS.length+LEN:=by rw[List.length_append,(HSB.out 0).2]
 rw[hlb] at hr⊢
 have HR5:=Lib.hid hr
 have HX5:=Lib.hid ((hb.block _ (Array.getElem?_eq_some_iff.1 HX4.out).1).trans HX4.out)
 have HB5:=Lib.hid (Below.via HB4.out hb)
 clear hb hr HX4 HB4 hlb
 go_wp2_with fail
 refine Calls.mono (HOF.out _ _ _ HR5.out) ?_
 rintro e y6 ⟨rfl,hb⟩
 have HX6:=Lib.hid ((hb.block _ (Array.getElem?_eq_some_iff.1 HX5.out).1).trans HX5.out)
 have HB6:=Lib.hid (Below.via HB5.out hb)
 have hl6:b0<y6.heap.size:=(Array.getElem?_eq_some_iff.1 HX6.out).1
 have hpt:partOf y6 b0 0 12=#[.int .u8 p,.int .u16 x1,.int .u16 x2,.int .u32 0,.int .u32 0,.int .u8 x5,.int .u16 0,.int .u16 0,.string ⟨#[]⟩,.int .u8 x9,.int .u8 x10,.string DS]:=partOf_all HX6.out rfl
 have c0':=cell_of_row _ _ 0 _ _ (0,0) HX6.out
 clear hb HX5 HB5 HR5 HOF HL HP HR HH
 by_cases h0:c0=0
 ·subst h0
  by_cases h17:p=17
  ·subst h17
   have HV:Hid (R=STD 65535):=Lib.hid (by rw[HRES.out,if_pos ⟨rfl,rfl⟩])
   go_wp2_with fail
   refine Calls.mono (HS.out 65535 _ (by omega) (by omega)) ?_
   rintro e y7 ⟨rfl,hb⟩
   have HB7:=Lib.hid (Below.via HB6.out hb)
   obtain⟨SS1,hSS1⟩:∃S,strOfNums (STD 65535)=S:=⟨_,rfl⟩
   have hs1:SS1.size=LEN:=by rw[←hSS1,strOfNums_size,(HSB.out 65535).2]
   have HSS1:=Lib.hid hSS1
   rw[hSS1]
   clear hSS1 hb hpt c0'
   go_wp2_with (with_reducible refine stop_tmp 46 ?_)
   refine Stopped.mk ?_
   refine wpList_tobytes _ rfl 9 22 _ rfl 5 Tryz.underlying9 Tryz.underlying22 Tryz.underlying5 (STD 65535) (by show Value.string SS1=_;rw[HSS1.out]) (HSB.out 65535).1 (by rw[(HSB.out 65535).2];omega) ?_
   intro c8 y8 hb hr
   have HR8:=Lib.hid hr
   have HB8:=Lib.hid (Below.via HB7.out hb)
   clear hb hr
   generalize hlv:(STD 65535).length=lv at*
   go_wp2_with fail
   go_ret2
   refine .mk ?_ HB8.out
   rw[HV.out]
   exact HR8.out
  ·have b17:(p==17)=false:=by simpa using h17
   have HV:Hid (R=STD 0):=Lib.hid (by rw[HRES.out,if_neg (fun h=>h17 h.2)];rfl)
   go_wp2_with fail
   refine Calls.mono (HS.out 0 _ (by omega) (by omega)) ?_
   rintro e y7 ⟨rfl,hb⟩
   have HB7:=Lib.hid (Below.via HB6.out hb)
   obtain⟨SS1,hSS1⟩:∃S,strOfNums (STD 0)=S:=⟨_,rfl⟩
   have hs1:SS1.size=LEN:=by rw[←hSS1,strOfNums_size,(HSB.out 0).2]
   have HSS1:=Lib.hid hSS1
   rw[hSS1]
   clear hSS1 hb hpt c0'
   go_wp2_with (with_reducible refine stop_tmp 46 ?_)
   refine Stopped.mk ?_
   refine wpList_tobytes _ rfl 9 22 _ rfl 5 Tryz.underlying9 Tryz.underlying22 Tryz.underlying5 (STD 0) (by show Value.string SS1=_;rw[HSS1.out]) (HSB.out 0).1 (by rw[(HSB.out 0).2];omega) ?_
   intro c8 y8 hb hr
   have HR8:=Lib.hid hr
   have HB8:=Lib.hid (Below.via HB7.out hb)
   clear hb hr
   generalize hlv:(STD 0).length=lv at*
   go_wp2_with fail
   go_ret2
   refine .mk ?_ HB8.out
   rw[HV.out]
   exact HR8.out
 ·have hne:((c0:Int)==0)=false:=by simp;omega
  have HV:Hid (R=STD (c0:Int)):=Lib.hid (by rw[HRES.out,if_neg (fun h=>h0 h.1)])
  go_wp2_with fail
  refine Calls.mono (HS.out (c0:Int) _ (by omega) (by omega)) ?_
  rintro e y7 ⟨rfl,hb⟩
  have HB7:=Lib.hid (Below.via HB6.out hb)
  obtain⟨SS1,hSS1⟩:∃S,strOfNums (STD (c0:Int))=S:=⟨_,rfl⟩
  have hs1:SS1.size=LEN:=by rw[←hSS1,strOfNums_size,(HSB.out (c0:Int)).2]
  have HSS1:=Lib.hid hSS1
  rw[hSS1]
  clear hSS1 hb hpt c0'
  go_wp2_with (with_reducible refine stop_tmp 46 ?_)
  refine Stopped.mk ?_
  refine wpList_tobytes _ rfl 9 22 _ rfl 5 Tryz.underlying9 Tryz.underlying22 Tryz.underlying5 (STD (c0:Int)) (by show Value.string SS1=_;rw[HSS1.out]) (HSB.out (c0:Int)).1 (by rw[(HSB.out (c0:Int)).2];omega) ?_
  intro c8 y8 hb hr
  have HR8:=Lib.hid hr
  have HB8:=Lib.hid (Below.via HB7.out hb)
  clear hb hr
  generalize hlv:(STD (c0:Int)).length=lv at*
  go_wp2_with fail
  go_ret2
  refine .mk ?_ HB8.out
  rw[HV.out]
  exact HR8.out
end
end Go.Proofs.YtkgjbipfhhjlpaaGreatDoor
