/- The Bc: one, works. -/
import Derived.Test.YtmppehipfpkepaaN6
set_option linter.unusedVariables false
namespace Go.Proofs.Ytmppehipfpkepaa.Dm
open Go.Dm
set_option maxHeartbeats 16000000
set_option maxRecDepth 20000
noncomputable def v9:FuncId→Bp:=Bu kY 9 PQ
theorem Rk:Cf Try.prog tt.get v9:=Rm.add mV
theorem vu (d:Nat){x y:Int}:NN tt.get (d+1) 3 (.int .i64 x) (.int .i64 y)=some (decide (x=y)):=by
 simp [NN,B8,Ph,PH]
theorem AA7 (d:Nat){x y:List UInt8}:NN tt.get (d+1) 9 (.string ⟨⟨x⟩⟩) (.string ⟨⟨y⟩⟩)=some (decide (x=y)):=by
 simp only [NN,OM,yY,WI]
 by_cases h:x=y <;> simp [h]
theorem prI {x:Value}{l:List Value}:Fo Ph (x :: l) 0=some x:=rfl
theorem AD3 {x y:Value}{l:List Value}:Fo Ph (x :: y :: l) 1=some y:=rfl
theorem ADu {x y z:Value}{l:List Value}:Fo yY (x :: y :: z :: l) 2=some z:=rfl
theorem fI {a b:Ae}:NN tt.get 64 37 (.agg ⟨AJ.enc a⟩) (.agg ⟨AJ.enc b⟩)=some (decide (a=b)):=by
 cases a with | mk a0 a1 a2=>
 cases b with | mk b0 b1 b2=>
 rw [NN];simp only [ED,WW,EW]
 rw [show (63:Nat)=62+1 from rfl]
 simp only [eqFields,show ("From" == "_")=false from rfl,show ("To" == "_")=false from rfl,show ("Bytes" == "_")=false from rfl,B8,OM,prI,AD3,ADu,vu 61,vu 60,AA7 59]
 by_cases h0:a0=b0 <;> by_cases h1:a1=b1 <;> by_cases h2:a2=b2 <;> simp [h0,h1,h2]
theorem sC {xo yo:Operand}{a b:Ae}:DI tt.get .eql 37 xo yo (.agg ⟨AJ.enc a⟩) (.agg ⟨AJ.enc b⟩)=(.bool (decide (a=b)),True):=by
 have h:DI tt.get .eql 37 xo yo (.agg ⟨AJ.enc a⟩) (.agg ⟨AJ.enc b⟩)=Jn (EG tt.get .eql 37 xo yo (.agg ⟨AJ.enc a⟩) (.agg ⟨AJ.enc b⟩)):=by
  unfold DI;rw [ED];unfold UI;rw [show BF tt.get 37=_ from rfl];rfl
 rw [h]
 have h2:EG tt.get .eql 37 xo yo (.agg ⟨AJ.enc a⟩) (.agg ⟨AJ.enc b⟩)=some (.bool (decide (a=b))):=by
  simp only [EG,ED,WW,fI]
 rw [h2];rfl
theorem sm {xo yo:Operand}{a b:Ae}:DI tt.get .neq 37 xo yo (.agg ⟨AJ.enc a⟩) (.agg ⟨AJ.enc b⟩)=(.bool (!decide (a=b)),True):=by
 have h:DI tt.get .neq 37 xo yo (.agg ⟨AJ.enc a⟩) (.agg ⟨AJ.enc b⟩)=Jn (EG tt.get .neq 37 xo yo (.agg ⟨AJ.enc a⟩) (.agg ⟨AJ.enc b⟩)):=by
  unfold DI;rw [ED];unfold UI;rw [show BF tt.get 37=_ from rfl];rfl
 rw [h]
 have h2:EG tt.get .neq 37 xo yo (.agg ⟨AJ.enc a⟩) (.agg ⟨AJ.enc b⟩)=some (.bool (!decide (a=b))):=by
  simp only [EG,ED,WW,fI]
 rw [h2];rfl
theorem nQ {xo yo:Operand}{a b:Int}{m:List UInt8}{x:Ae}:DI tt.get .eql 37 xo yo (.agg ⟨[.int .i64 x.B2, .int .i64 x.To, .string ⟨⟨x.Bytes⟩⟩]⟩) (.agg ⟨[.int .i64 a, .int .i64 b, .string ⟨⟨m⟩⟩]⟩)=(.bool (decide (x=⟨a,b,m⟩)),True):=sC (a:=x) (b:=⟨a,b,m⟩)
def YH:Bp:= .pure (fun args hp=>match args with | [v,x,y,m]=>Dp AJ hp v∧EO .i64 x∧EO .i64 y∧T6 m | _=>False) (fun args hp=>match args with | [v,x,y,m]=> .bool (decide (AJ.rd hp v= [⟨intOf x,intOf y,strOf m⟩])) | _=>undef)
theorem i1:(((0+1:Nat):Int)=1)=True:=by simp
theorem i0:¬(((0:Nat):Int)=1):=by decide
theorem ya:BK Try.prog 28 YH:=by
 refine .Gx Vx ?_ ?_
 ·intro args hp h
  match args,h with
  | [v,x,y,m],_=>rfl
 intro args hp hpre top hcl hsc
 match args,hpre with
 | [v,x,y,m],⟨⟨l,h⟩,hx,hy,hm⟩=>
 rw [hx,hy,hm]
 generalize intOf x=x,intOf y=y
 generalize strOf m=m
 have hs:=h.low hcl
 simp only [h.rd,BA,D1]
 refine AL.Au BE Vx rfl 22 rfl [.tmp 8] rfl (show 4≤22 by decide) ?_
 match l,h with
 | [],h=>
  refine CW.vc Rk [0,1,2,3,8] (by kernel_rfl) ?_
  (repeat ((try refine Vc.mk' ?_);simp only [go_sem,reduceCtorEq,Nat.reduceAdd,Nat.reduceLeDiff,Int.reduceEq,Int.reduceLE,Cx h,List.length_nil,Int.natCast_zero]))
 | [a],h=>
  have hlt:0 < [a].length:=by simp
  have ld:=Je h hlt
  have ix:BP tt.get 34 v (.int .i64 0)=_:=GN h (k:= .i64) (n:=0) (by decide) (by simp)
  rw [Nat.zero_mul] at ld
  rw [show (0:Int).toNat * 3=0 from rfl] at ix
  have ea:Aj [a] 0=a:=rfl
  rw [ea] at ld
  refine CW.vc Rk [0,1,2,3,8] (by kernel_rfl) ?_
  (repeat ((try refine Vc.mk' ?_);simp only [go_sem,Nat.reduceAdd,Nat.reduceLeDiff,Int.reduceLE,Cx h,List.length_cons,List.length_nil,ix,ld,i1,nQ]))
  simp
 |a :: b :: l,h=>
  have hn:¬(((l.length+1+1:Nat):Int)=1):=by omega
  refine CW.vc Rk [0,1,2,3,8] (by kernel_rfl) ?_
  (repeat ((try refine Vc.mk' ?_);simp only [go_sem,Nat.reduceAdd,Nat.reduceLeDiff,Int.reduceLE,Cx h,List.length_cons,hn]))
  simp
end Go.Proofs.Ytmppehipfpkepaa.Dm
/- The Bc: works. -/
set_option linter.unusedVariables false
namespace Go.Proofs.Ytmppehipfpkepaa.Dm
open Go.Dm
set_option maxHeartbeats 16000000
set_option maxRecDepth 20000
noncomputable def Qy:FuncId→Bp:=Bu v9 28 YH
theorem My:Cf Try.prog tt.get Qy:=Rk.add ya
theorem gW:Qy 9=PQ:=rfl
theorem mS:Qy 10=Kz:=rfl
theorem oE:Qy 12=Mi:=rfl
theorem tg:Qy 11=QL:=rfl
theorem rW:Qy 19=QH:=rfl
theorem rG:Qy 28=YH:=rfl
theorem ag {n X:Nat}{lv:Value}{s:Ak}{a b:Int}{m:List UInt8}{f:FT}(hX:¬JG s a b m)(hf:(Fa.Cr s.P a b).2=(f,0))(hc:f.Bb≠0) :
  C5 n lv s a b m X=(.tuple ⟨[.agg ⟨JV.enc f⟩, .int .i64 0]⟩,Ef n lv s a b m X,X+1):=by
 unfold Ef
 have e1:(Fa.Cr s.P a b).2.1=f:=by rw [hf]
 have e2:(Fa.Cr s.P a b).2.2=0:=by rw [hf]
 have hE:Ei s a b m.length=0:=by
  unfold JG at hX
  simp only [not_or] at hX
  unfold Ei;rw [if_neg hX.1,if_neg hX.2.1,if_neg hX.2.2.1,if_neg hX.2.2.2,e2]
 have hcp:¬DT s a b=0:=by unfold DT;rw [e1];exact hc
 unfold C5
 rw [if_neg (show ¬(_∨_) from hX),hE,e1,if_neg hcp]
theorem SQ {n X:Nat}{lv:Value}{s:Ak}(h:s.now < 1099511627776):Hw n lv s X=(AK X (E8 s),Dr n lv s X,X+1):=by
 unfold Hw;rw [if_pos h,ZL]
theorem mh {hp:Hp}{n X:Nat}{lv:Value}{s:Ak}(h:s.now < 1099511627776)(h8:n+7 < X)(lvs:Sc X lv)(o:E0 AP hp lv s.l):(hp.AZ (Dr n lv s X)) X=AO AJ (E8 s):=by
 unfold Dr E8
 rw [if_pos h,if_pos h]
 simp only [Aa]
 rw [CG]
 ·exact AB ..
 ·intro p hp
  rcases CQ o (FW s.l (s.now+1)) with ⟨_,c2⟩ | ⟨b,c0,_,c2⟩
  ·rw [show CM s=JU s.l (s.now+1) from rfl,c2] at hp;cases hp
  ·rw [show CM s=JU s.l (s.now+1) from rfl,c2] at hp
   simp at hp;subst hp
   rw [c0] at lvs
   exact Nat.ne_of_lt (show b < X from lvs)
/-! ### only what is new is written -/
def Hi (T:Nat)(v:Value):Prop:= ∀b n c,v= .slice (some ⟨b,0,none⟩) n c→T≤b
theorem Hi.nil {T:Nat}:Hi T (.slice none 0 0):=fun _ _ _ e=>by cases e
theorem Fc {T:Nat}{us:BC}{h hp:Hp}(hu:∀p∈us,T≤p.1):AE T [] (h.AZ us) hp=AE T [] h hp:=by
 refine propext ⟨fun k i hi hn=> ?_,fun k i hi hn=> ?_⟩
 ·have:=k i hi hn
  rwa [CG fun p hp e=>by have:=hu p hp;omega] at this
 ·rw [CG fun p hp e=>by have:=hu p hp;omega];exact k i hi hn
theorem eg {T:Nat}{lv:Value}{hp:Hp}{l:List Ah}(o:E0 AP hp lv l)(h:Hi T lv):∀p∈DJ lv,T≤p.1:=by
 rcases CT o with ⟨rfl,_⟩ | ⟨q,rfl,_⟩
 ·intro p hp;cases hp
 ·intro p hp;simp [DJ] at hp;subst hp;exact h q _ _ rfl
theorem vU {T n X:Nat}{lv:Value}{s:Ak}{a b:Int}{m:List UInt8}{hp:Hp}(o:E0 AP hp lv s.l)(hn:T≤n)(hX:T≤X)(h:Hi T lv):∀p∈Ef n lv s a b m X,T≤p.1:=by
 intro p hp
 unfold Ef C5 at hp
 split at hp
 ·cases hp
 ·simp only [List.mem_append] at hp
  rcases hp with hp | hp
  ·simp [Fa.Cm] at hp;rcases hp with rfl | rfl <;> simp <;> omega
  ·unfold Fm at hp
   split at hp
   ·cases hp
   ·simp only [List.mem_cons,List.mem_append,List.not_mem_nil,or_false] at hp
    rcases hp with rfl | hp | rfl
    ·show T≤n+6;omega
    ·exact eg o h p hp
    ·exact hX
theorem di {T n X:Nat}{lv:Value}{s:Ak}{hp:Hp}(o:E0 AP hp lv s.l)(hn:T≤n)(hX:T≤X)(h:Hi T lv):∀p∈Dr n lv s X,T≤p.1:=by
 intro p hp
 unfold Dr at hp
 split at hp
 ·simp only [List.mem_cons] at hp
  rcases hp with rfl | rfl | rfl | hp
  ·exact hn
  ·show T≤n+6;omega
  ·exact hX
  ·rcases CQ o (FW s.l (s.now+1)) with ⟨_,c2⟩ | ⟨b,c0,_,c2⟩
   ·rw [show CM s=JU s.l (s.now+1) from rfl,c2] at hp;cases hp
   ·rw [show CM s=JU s.l (s.now+1) from rfl,c2] at hp
    simp at hp;subst hp;exact h b _ _ c0
 ·cases hp
theorem Yp {T X:Nat}{lv:Value}{s:Ak}{a b:Int}{m:List UInt8}(hX:T≤X)(h:Hi T lv):Hi T (JQ lv s a b m X):=by
 unfold JQ
 split
 ·exact h
 ·intro b n c e;cases e;exact hX
theorem Zv {T:Nat}{lv:Value}{s:Ak}{hp:Hp}(o:E0 AP hp lv s.l)(h:Hi T lv):Hi T (IB lv s):=by
 unfold IB
 split
 ·rcases CQ o (FW s.l (s.now+1)) with ⟨c1,_⟩ | ⟨b,c0,c1,_⟩
  ·rw [show JJ lv s.l 0 (CM s)=lv from c1];exact h
  ·rw [show JJ lv s.l 0 (CM s)=_ from c1];intro b' n c e;cases e;exact h b _ _ c0
 ·exact h
theorem Vy {T n:Nat}{s:Ak}(hn:T≤n):∀p∈FZ n s,T≤p.1:=by
 intro p hp
 simp [FZ] at hp
 rcases hp with rfl | rfl | rfl | rfl | rfl | rfl | rfl | rfl <;> simp <;> omega
def w0:Ak:=pJ [] 0 2
theorem AEA:¬JG w0 1 2 [97]:=by decide +kernel
theorem yj:(Fa.Cr w0.P 1 2).2=(⟨1,0,0⟩,0):=by kernel_rfl
def w1:Ak:=NT w0 1 2 [97]
def w2:Ak:=MK w1
def w3:Ak:=MK w2
theorem AA9:w1.l= [⟨2,1,1,2, [97]⟩]∧w1.now=0:=⟨by kernel_rfl,by kernel_rfl⟩
theorem ACU:w2.l= [⟨2,1,1,2, [97]⟩]∧w2.now=1:=⟨by kernel_rfl,by kernel_rfl⟩
theorem ABL:w3.l= []∧w3.now=2:=⟨by kernel_rfl,by kernel_rfl⟩
theorem AD9:E8 w1= []:=by kernel_rfl
theorem AA3:E8 w2= [⟨1,2, [97]⟩]:=by kernel_rfl
theorem tW {X:Nat}:IG [] 2 X=(.pointer (some ⟨X,0,none⟩),FZ X w0,X+8):=rfl
def MN:Bp:= .pure (fun args _=>args= []) (fun _ _=> .bool true)
theorem ku:BK Try.prog 8 MN:=by
 refine .Gx bu (fun _ _ _=>rfl) ?_
 rintro args hp rfl top hcl hsc
 have rP:∀ {h':Hp},Dp Ap h' (.slice none 0 0)=True:=fun {h'}=>(BU.nils (E:=Ap) (hp:=h')).P
 have rR:∀ {h':Hp},Ap.rd h' (.slice none 0 0)= []:=fun {h'}=>(BU.nils (E:=Ap) (hp:=h')).rd
 have A0:BW (hp.AZ (FZ top w0)) top (.slice none 0 0) w0:=BW.new rfl rfl (by kernel_rfl) (by decide) (by decide) (by decide) rfl
 have A1:=A0.send (top:=top+8) (by omega) trivial (by decide) 1 2 [97]
 obtain ⟨lv1,hlv1⟩:∃v,JQ (.slice none 0 0) w0 1 2 [97] (top+8)=v:=⟨_,rfl⟩
 have S1:Sc (top+9) lv1:=by rw [←hlv1];exact tj A0.W.o (T:=top+8) trivial (by omega)
 rw [hlv1] at A1
 have B1:∀ {o:Option BB},BW (((hp.AZ (FZ top w0)).AZ (Ef top (.slice none 0 0) w0 1 2 [97] (top+8))).set (top+9) o) top lv1 w1:=fun {o}=>A1.stay (top:=top+9) (by omega) S1 (by rw [AE.set (by omega),AE.refl];trivial)
 have r1:∀ {X:Nat},C5 top (.slice none 0 0) w0 1 2 [97] X=(.tuple ⟨[.agg ⟨[.int .i64 1, .int .i64 0, .int .i64 0]⟩, .int .i64 0]⟩,Ef top (.slice none 0 0) w0 1 2 [97] X,X+1):=fun {X}=>ag AEA yj (by decide)
 have A0s:=A0.s
 have A0v:=A0.v
 have A0i:=A0.is
 have B1s:∀ {o:Option BB},_:=fun {o}=>(B1 (o:=o)).s
 have B1v:∀ {o:Option BB},_:=fun {o}=>(B1 (o:=o)).v
 have B1i:∀ {o:Option BB},_:=fun {o}=>(B1 (o:=o)).is
 have l0:w0.last < 999990:=by decide
 have t1:∀ {X:Nat},Hw top lv1 w1 X=(AK X (E8 w1),Dr top lv1 w1 X,X+1):=fun {X}=>SQ (by rw [AA9.2];decide)
 have A2:∀ {o:Option BB},BW ((((hp.AZ (FZ top w0)).AZ (Ef top (.slice none 0 0) w0 1 2 [97] (top+8))).set (top+9) o).AZ (Dr top lv1 w1 (top+10))) top (IB lv1 w1) w2:=fun {o}=>(B1 (o:=o)).tick (top:=top+10) (by omega) (MA A1.W.o S1 (by omega))
 have S2:Sc (top+10) (IB lv1 w1):=vS (MA A1.W.o S1 (by omega)) A1.W.o
 obtain ⟨lv2,hlv2⟩:∃v,IB lv1 w1=v:=⟨_,rfl⟩
 rw [hlv2] at S2
 simp only [hlv2] at A2
 have t2:∀ {X:Nat},Hw top lv2 w2 X=(AK X (E8 w2),Dr top lv2 w2 X,X+1):=fun {X}=>SQ (by rw [ACU.2];decide)
 have A3:∀ {o:Option BB},BW (((((hp.AZ (FZ top w0)).AZ (Ef top (.slice none 0 0) w0 1 2 [97] (top+8))).set (top+9) o).AZ (Dr top lv1 w1 (top+10))).AZ (Dr top lv2 w2 (top+11))) top (IB lv2 w2) w3:=fun {o}=>(A2 (o:=o)).tick (top:=top+11) (by omega) (MA (A2 (o:=o)).W.o S2 (by omega))
 have T3:∀ {o:Option BB},BU AJ (((((hp.AZ (FZ top w0)).AZ (Ef top (.slice none 0 0) w0 1 2 [97] (top+8))).set (top+9) o).AZ (Dr top lv1 w1 (top+10))).AZ (Dr top lv2 w2 (top+11))) (AK (top+11) (E8 w2)) (E8 w2):=fun {o}=>
  .own (mh (by rw [ACU.2];decide) (by omega) (MA (A2 (o:=o)).W.o S2 (by omega)) (A2 (o:=o)).W.o) (by rw [AA3];decide)
 have A2s:∀ {o:Option BB},_:=fun {o}=>(A2 (o:=o)).s
 have A2v:∀ {o:Option BB},_:=fun {o}=>(A2 (o:=o)).v
 have A2i:∀ {o:Option BB},_:=fun {o}=>(A2 (o:=o)).is
 have A3s:∀ {o:Option BB},_:=fun {o}=>(A3 (o:=o)).s
 have A3i:∀ {o:Option BB},_:=fun {o}=>(A3 (o:=o)).is
 have T3p:∀ {o:Option BB},_:=fun {o}=>(T3 (o:=o)).P
 have T3r:∀ {o:Option BB},_:=fun {o}=>(T3 (o:=o)).rd
 have q1:((w1.l.length:Nat):Int)=1:=by rw [AA9.1];rfl
 have q2:(((E8 w1).length:Nat):Int)=0:=by rw [AD9];rfl
 have q3:((w3.l.length:Nat):Int)=0:=by rw [ABL.1];rfl
 have q4:w3.now=2:=ABL.2
 have q5:decide (E8 w2= [⟨1,2, [97]⟩])=true:=by rw [AA3];decide
 have k1:=vU (s:=w0) (n:=top) (X:=top+8) (a:=1) (b:=2) (m:= [97]) A0.W.o (Nat.le_refl _) (by omega) Hi.nil
 have H1:Hi top lv1:=by rw [←hlv1];exact Yp (by omega) Hi.nil
 have k2:=di (s:=w1) (n:=top) (X:=top+10) A1.W.o (Nat.le_refl _) (by omega) H1
 have H2:Hi top lv2:=by rw [←hlv2];exact Zv A1.W.o H1
 have k3:=di (s:=w2) (n:=top) (X:=top+11) (A2 (o:=none)).W.o (Nat.le_refl _) (by omega) H2
 refine AL.Au BE bu rfl 45 rfl [.tmp 0] rfl (show 0≤45 by decide) ?_
 refine CW.vc My [0,1,2,3,6] (by kernel_rfl) ?_
 (repeat ((try refine Vc.mk' ?_);simp only [go_sem,Nat.reduceAdd,Nat.reduceLeDiff,Int.reduceEq,gW,PQ,mS,Kz,oE,Mi,tg,QL,rW,QH,rG,YH,tW,rP,rR,A0s,A0v,A0i,r1,l0,B1s,B1v,B1i,t1,t2,A2s,A2v,A2i,A3s,A3i,T3p,T3r,q1,q2,q3,q4,q5]))
 rw [Fc k3,Fc k2,AE.set (by omega),Fc k1,Fc (Vy (Nat.le_refl _)),AE.refl];trivial
end Go.Proofs.Ytmppehipfpkepaa.Dm
