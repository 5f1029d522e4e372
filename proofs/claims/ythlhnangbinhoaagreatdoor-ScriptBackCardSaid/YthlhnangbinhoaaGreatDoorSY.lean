/- Print, walked. -/
import Derived.Test.YthlhnangbinhoaaGreatDoorSX
set_option linter.unusedSimpArgs false
set_option linter.unusedVariables false
namespace Go.Proofs.YthlhnangbinhoaaGreatDoor.Dm
open Go.Dm
set_option maxHeartbeats 64000000
set_option maxRecDepth 20000
noncomputable def Yl:FuncId→Bz:=Cx o8 24 LI
theorem FP:DU Tryz.prog tt.get Yl:=Uq.add ABi
theorem Kg:Yl 24=LI:=rfl
theorem ZZ:Yl 23=LG (fun _=>True) Fl:=rfl
theorem fK:Yl 15=Hj:=rfl
theorem jf:Yl 27=Nf:=rfl
theorem ua:Yl 28=Kw:=rfl
def LL (hp:Hp)(top:Nat)(b:Option BI)(T:List UInt8):Hp:=hp.A6 [(top,b),(top+1,CJ (.pointer (some ⟨top+1,0,none⟩)) (AA (top+2) T)),(top+2,G7 T)]
def OZ (top:Nat)(fr:DZ):DZ:=(1, .pointer (some ⟨top,0,none⟩),true) :: (5, .pointer (some ⟨top+1,0,none⟩),true) :: (6, .func (.func 24) ⟨[]⟩ ⟨[.pointer (some ⟨top+1,0,none⟩)]⟩,true) :: fr
def xd (hp:Hp)(top:Nat)(S:CR)(r k u o:Value)(i:Nat):SS:=⟨OZ top [(46,r,true),(47, .int .i64 (S.R.length:Int),true),(48, .int .i64 (i:Int),true)],LL hp top (Bw S r k u o) (Cr S ++ A1 De (S.R.take i)),top+3⟩
def JS (hp:Hp)(top:Nat)(S:CR)(r k u o:Value)(i:Nat):SS:=⟨OZ top [(65,k,true),(66, .int .i64 (S.K.length:Int),true),(67, .int .i64 (i:Int),true)],LL hp top (Bw S r k u o) (Cr S ++ A1 De S.R ++ A1 Fh (S.K.take i)),top+3⟩
def pd (hp:Hp)(top:Nat)(S:CR)(r k u o:Value)(i:Nat):SS:=⟨OZ top [(83,u,true),(84, .int .i64 (S.U.length:Int),true),(85, .int .i64 (i:Int),true)],LL hp top (Bw S r k u o) (Cr S ++ A1 De S.R ++ A1 Fh S.K ++ A1 Gl (S.U.take i)),top+3⟩
def vY (hp:Hp)(top:Nat)(S:CR)(r k u o:Value)(ops:List Aq)(i:Nat):SS:=⟨OZ top [(130,o,true),(131, .int .i64 (ops.length:Int),true),(132, .int .i64 (i:Int),true)],LL hp top (Bw S r k u o) (Io S ++ A1 DL (ops.take i)),top+3⟩
theorem UL {h:Hp}{i j q:Nat}{a:Value}{T w tl:List UInt8}{ns:List Int}(b:EL h i a j T)(hr:T.length+w.length+tl.length≤140737488000000)(hq:ns= []∨h q=AE Ad ns)(h1:q≠i)(h2:q≠j)(h3:j≠1)(h4:ns.length≤4)(h5:∀n∈ns,IE n):L9 h w tl (AA q ns) i:=⟨⟨a,j,T,q,ns,b,hr,rfl,hq,h1,h2,h3,h4,h5⟩⟩
theorem xN {h:Hp}{q:Nat}{ns:List Int}(hq:h q=AE Ad ns)(hn:ns.length≤4):Ad.rd h (AA q ns)=ns:=Mz hq (by omega)
theorem Lq {hp h1:Hp}{top t:Nat}{fr fr':DZ}{T:List UInt8}{b:Option BI}(j:Nat)(hcl:Cl hp top)(hj:top+2≤j)
  (hfr:Gk (rn top [top,top+1,j] t) fr' fr) (hk:Bc top [] h1 hp) (m0:h1 top=b) (m1:h1 (top+1)=CJ (.pointer (some ⟨top+1,0,none⟩)) (AA j T)) (m2:h1 j=G7 T)
  (hb:Jm (rn top [top,top+1,j] t) b=b):∃ρ,Bj ρ top ⟨fr',LL hp top b T,top+3⟩ ⟨fr,h1,t⟩:=by
 have r0:rn top [top,top+1,j] t top=top:=E0 _ _ _
 have r1:rn top [top,top+1,j] t (top+1)=top+1:=Dq _ _ _ 1
 have r2:rn top [top,top+1,j] t (top+2)=j:=Dq _ _ _ 2
 refine Bj.mk' [top,top+1,j] hcl (by simp;omega) (by simp;omega) (n:=3) rfl (Ac hfr) (fun i hi hm=>hk i hi (by simp)) ?_
 simp only [Hx.cons,Hx.nil,and_true,r0,r1,r2,m0,m1,m2,hb,Jv,Mg,Al,Av,true_or,or_true,and_self]
theorem zR:BR Tryz.prog 9 Nx:=by
 refine .LN aA (fun args hp h=> ?_) ?_
 ·match args,h with
  | [v],_=>rfl
 intro args hp hpre top hcl hsc
 match args,hpre with
 | [v],⟨⟨S,ops,hS,hG,hO⟩,hv⟩=>
 have ht5:=FE hcl hv
 have hv1:hp 1=some Sm:=hv.1
 have t1:1 < top:=by omega
 have t2:2≤top+1:=by omega
 have hd:=hS.d
 have lR:=hS.rl
 have lK:=hS.kl
 have lU:=hS.ul
 have lO:=hS.ol
 obtain ⟨r,k,u,o,rfl,h1,h2,h3,h4⟩:=hS.ex
 have s1:=h1.low hcl
 have s2:=h2.low hcl
 have s3:=h3.low hcl
 have s4:=h4.low hcl
 have hSV:∀ {h':Hp},Bc top [] h' hp→Sw h' (.agg ⟨[.int .i64 S.W, .int .i64 S.A, .int .i64 S.T, .int .i64 S.L,r,k,u]⟩) S:=fun {h'} hk=>⟨⟨r,k,u,rfl,h1.BU s1 hk,h2.BU s2 hk,h3.BU s3 hk⟩,lR,lK,lU⟩
 have hE:∀ {h':Hp},Bc top [] h' hp→(∃Z,Sw h' (.agg ⟨[.int .i64 S.W, .int .i64 S.A, .int .i64 S.T, .int .i64 S.L,r,k,u]⟩) Z)=True:=fun {h'} hk=>eq_true ⟨S,hSV hk⟩
 have hD:∀ {h':Hp},Bc top [] h' hp→Mr h' (.agg ⟨[.int .i64 S.W, .int .i64 S.A, .int .i64 S.T, .int .i64 S.L,r,k,u]⟩)=S:=fun {h'} hk=>(hSV hk).d
 simp only [hd]
 unfold Z0
 refine Ae.Bn Bu aA rfl 151 rfl [.tmp 2, .tmp 3] rfl (show 1≤151 by decide) ?_
 by_cases c1:Fl S=0
 case neg=>
  have e:e9 S ops=([],Fl S):=by unfold e9;rw [if_pos c1]
  rw [e]
  refine CW.vc FP [0,1,2,3,4,5,6,8,9,11,13,15,16,17,22,27,46,47,48,49,53,65,66,67,68,83,84,85,86,90,102,113,130,131,132,133,142,149] (by kernel_rfl) ?_
  (repeat ((try refine Vc.mk' ?_);simp (maxSteps:=6000000) only [go_sem,ZZ,LG,hE,hD,hv,AO ht5,AP ht5,c1,tJ]))
 by_cases c2:512 < ops.length
 ·have e:e9 S ops=([],3):=by unfold e9;rw [if_neg (by simp [c1]),if_pos c2]
  have c2':(512:Int) < (ops.length:Int):=by omega
  rw [e]
  refine CW.vc FP [0,1,2,3,4,5,6,8,9,11,13,15,16,17,22,27,46,47,48,49,53,65,66,67,68,83,84,85,86,90,102,113,130,131,132,133,142,149] (by kernel_rfl) ?_
  (repeat ((try refine Vc.mk' ?_);simp (maxSteps:=6000000) only [go_sem,ZZ,LG,hE,hD,hv,AO ht5,AP ht5,c1,tJ,c2',IH h4,IG h4,Ke h4,KU h4,Kz h4,Gs h4,Gt h4,Gu h4,GW h4,Gz h4,Gm h4,GX h4,Ge h4,Gn h4,Gp h4,Gx h4,Gi h4,Gg h4,GY h4,h4.P,h4.oc,h4.cl,h4.rd,h4.ref,Aj s4,AZ s4,AY s4,AX h4 s4 Hd]))
 have c2':¬(512:Int) < (ops.length:Int):=by omega
 have hz:hp (top+3)=none:=by
  cases h:hp (top+3) with
  |none=>rfl
  |some o=>have:=hcl.lt _ _ h;omega
 have hB0:∀ {h':Hp},h' (top+1)=some (.cells true Cn [.pointer none, .slice none 0 0])→h' (top+3)=none→EL h' (top+1) (.pointer none) (top+3) []:=fun a b=>⟨a, .inl rfl,b,by omega⟩
 have hp0:∀ {h':Hp},h' (top+1)=some (.cells true Cn [.pointer none, .slice none 0 0])→h' (top+3)=none→h' (top+2)=some (.cells true 1 [.int .i64 S.W, .int .i64 S.A, .int .i64 S.T, .int .i64 S.L])→L9 h' [119,111,114,108,100] [] (.slice (some ⟨top+2,0,none⟩) 4 4) (top+1)=True:=fun a b c=>eq_true (UL (ns:= [S.W,S.A,S.T,S.L]) (hB0 a b) (by decide) (.inr c) (by omega) (by omega) (by omega) (by simp) (by simp [hG.w,hG.a,hG.t,hG.l]))
 have hr0:∀ {h':Hp},h' (top+2)=some (.cells true 1 [.int .i64 S.W, .int .i64 S.A, .int .i64 S.T, .int .i64 S.L])→Ad.rd h' (.slice (some ⟨top+2,0,none⟩) 4 4)= [S.W,S.A,S.T,S.L]:=fun a=>xN (ns:= [S.W,S.A,S.T,S.L]) a (by simp)
 have hl0:DM [119,111,114,108,100] [] [S.W,S.A,S.T,S.L] = Cr S:=rfl
 have hbL0:∀ {h':Hp},h' (top+1)=some (.cells true Cn [.pointer none, .slice none 0 0])→h' (top+3)=none→KG h' (top+1)= []:=fun a b=>(hB0 a b).MA
 have hbJ0:∀ {h':Hp} {t:Nat},h' (top+1)=some (.cells true Cn [.pointer none, .slice none 0 0])→h' (top+3)=none→Hh h' (top+1) t=t:=fun a b=>(hB0 a b).TV
 refine CW.vc FP [0,1,2,3,4,5,6,8,9,11,13,15,16,17,22,27,46,47,48,49,53,65,66,67,68,83,84,85,86,90,102,113,130,131,132,133,142,149] (by kernel_rfl) ?_
 (repeat ((try refine Vc.mk' ?_);simp (maxSteps:=6000000) only [go_sem,ZZ,LG,hE,hD,hv,AO ht5,AP ht5,c1,c2',IH h4,IG h4,Ke h4,KU h4,Kz h4,Gs h4,Gt h4,Gu h4,GW h4,Gz h4,Gm h4,GX h4,Ge h4,Gn h4,Gp h4,Gx h4,Gi h4,Gg h4,GY h4,h4.P,h4.oc,h4.cl,h4.rd,h4.ref,Aj s4,AZ s4,AY s4,AX h4 s4 Hd,Kg,LI,hp0,hr0,hl0,hbL0,hbJ0,hz,hv1,AG t1,t2,AU,YX,EY,GS,Eg h1,Ed h1,F2 h1,Fy h1,Fv h1,D0 h1,D1 h1,D3 h1,D6 h1,D4 h1,D2 h1,h1.P,h1.oc,h1.cl,h1.rd,h1.ref,Aj s1,AZ s1,AY s1,AX h1 s1 C2]))
 have hob:∀ {ρ:Nat→Nat},(∀j,j < top→ρ j=j)→Jm ρ (Bw S r k u o)=Bw S r k u o:=fun {ρ} h=>by
  simp only [Bw,Jm,Im,DA,Av,Sc.Av h s1,Sc.Av h s2,Sc.Av h s3,Sc.Av h s4]
 have hlo:∀ {bs:List Nat} {z:Nat} (j:Nat),j < top→rn top bs z j=j:=fun j hj=>AB hj
 have hwl:=GJ (w:=Zq) (tl:= []) (ns:= [S.W,S.A,S.T,S.L]) (by simp [hG.w,hG.a,hG.t,hG.l])
 have hWl:(Cr S).length≤200:=by
  unfold Cr
  have:Zq.length=5:=rfl
  simp only [List.length_cons,List.length_nil] at hwl ⊢;omega
 have hRl:=FZ (f:=De) (n:=200) (l:=S.R) fun c hc=>Th (hG.R c hc)
 have hKl:=FZ (f:=Fh) (n:=200) (l:=S.K) fun c hc=>TC (hG.K c hc)
 have hUl:=FZ (f:=Gl) (n:=200) (l:=S.U) fun c hc=>UA (hG.U c hc)
 refine CW.D9 (xd hp top S r k u o) (fun i=>i≤S.R.length) (fun i=>S.R.length - i) 0 (Nat.zero_le _) ?_ ?_
 ·simp only [xd,List.take_zero,A1,List.append_nil]
  refine Lq (top+3) hcl (by omega) ?_ ?_ ?_ ?_ ?_ (hob hlo)
  ·simp [OZ,Gk,KI,Av,DA,E0,Dq,Sc.Av hlo s1]
  ·simp [Bc.set,Bc.refl]
  ·simp [AQ,AF,Bw]
  ·simp [AQ,AF]
  ·simp [AQ,AF]
 ·intro i hi
  have hTn:Cr S ++ A1 De (S.R.take i)≠ []:=by simp [Cr,DM]
  have hTl:(Cr S ++ A1 De (S.R.take i)).length≤1000000000:=by
   have:=FZ (f:=De) (n:=200) (l:=S.R.take i) fun c hc=>Th (hG.R c (List.mem_of_mem_take hc))
   rw [List.length_take] at this
   simp only [List.length_append];omega
  by_cases hlt:i < S.R.length
  ·have ii:((i:Int) < (S.R.length:Int)):=by omega
   have kk:Ar .i64 ((i:Int)+1)=((i+1:Nat):Int):=B0 hlt (by omega)
   have hM:=hG.R _ (show at' S.R i∈S.R by rw [Cb _ _ hlt];exact List.getElem_mem hlt)
   have hnx:Cr S ++ A1 De (S.R.take (i+1))=(Cr S ++ A1 De (S.R.take i)) ++ De (at' S.R i):=by rw [DV hlt,GR];simp only [List.append_assoc]
   generalize hT:Cr S ++ A1 De (S.R.take i)=T at hTn hTl hnx
   have hbL:∀ {h':Hp},h' (top+1)=CJ (.pointer (some ⟨top+1,0,none⟩)) (AA (top+2) T)→h' (top+2)=G7 T→KG h' (top+1)=T:=fun a b=>(CA (by omega) a b).MA
   have hbJ:∀ {h':Hp} {t:Nat},h' (top+1)=CJ (.pointer (some ⟨top+1,0,none⟩)) (AA (top+2) T)→h' (top+2)=G7 T→Hh h' (top+1) t=top+2:=fun a b=>(CA (by omega) a b).NJ hTn
   by_cases ci:(at' S.R i).F6=true
   ·have cit:=eq_true ci
    have hpre:∀ {h':Hp},h' (top+1)=CJ (.pointer (some ⟨top+1,0,none⟩)) (AA (top+2) T)→h' (top+2)=G7 T→h' (top+4)=some (.cells true 1 [.int .i64 (at' S.R i).Self, .int .i64 (at' S.R i).Claim])→L9 h' [114,111,117,116,101,114] [32,105,110,103,114,101,115,115] (.slice (some ⟨top+4,0,none⟩) 2 2) (top+1)=True:=fun a b c=>eq_true (UL (ns:= [(at' S.R i).Self,(at' S.R i).Claim]) (CA (by omega) a b) (by simp only [List.length_cons,List.length_nil];omega) (.inr c) (by omega) (by omega) (by omega) (by simp) (by simp [hM]))
    have hrd:∀ {h':Hp},h' (top+4)=some (.cells true 1 [.int .i64 (at' S.R i).Self, .int .i64 (at' S.R i).Claim])→Ad.rd h' (.slice (some ⟨top+4,0,none⟩) 2 2)= [(at' S.R i).Self,(at' S.R i).Claim]:=fun a=>xN (ns:= [(at' S.R i).Self,(at' S.R i).Claim]) a (by simp)
    have hln:DM [114,111,117,116,101,114] [32,105,110,103,114,101,115,115] [(at' S.R i).Self,(at' S.R i).Claim] = De (at' S.R i):=by simp [De,H4,Us,Ni,N2,H8,K3,ci]
    refine CW.vc FP [0,1,2,3,4,5,6,8,9,11,13,15,16,17,22,27,46,47,48,49,53,65,66,67,68,83,84,85,86,90,102,113,130,131,132,133,142,149] (by kernel_rfl) ?_
    (repeat ((try refine Vc.mk' ?_);simp (maxSteps:=6000000) only [go_sem,xd,hT,OZ,LL,Kg,LI,hpre,hrd,hbL,hbJ,hv1,AG t1,t2,AU,YX,kk,ii,hlt,hln,Eg h1,Ed h1,F2 h1,Fy h1,Fv h1,D0 h1,D1 h1,D3 h1,D6 h1,D4 h1,D2 h1,h1.P,h1.oc,h1.cl,h1.rd,h1.ref,Aj s1,AZ s1,AY s1,AX h1 s1 C2,ci]))
    refine .mk (i+1) hlt (by omega) (by
     simp only [xd]
     rw [hnx]
     refine Lq (top+5) hcl (by omega) ?_ ?_ ?_ ?_ ?_ (hob hlo)
     ·simp [OZ,Gk,KI,Av,DA,E0,Dq,Sc.Av hlo s1]
     ·simp [Bc.set,Bc.refl]
     ·simp [AQ,AF,Bw]
     ·simp [AQ,AF]
     ·simp [AQ,AF])
   ·skip
    have hpre:∀ {h':Hp},h' (top+1)=CJ (.pointer (some ⟨top+1,0,none⟩)) (AA (top+2) T)→h' (top+2)=G7 T→h' (top+4)=some (.cells true 1 [.int .i64 (at' S.R i).Self, .int .i64 (at' S.R i).Claim])→L9 h' [114,111,117,116,101,114] [] (.slice (some ⟨top+4,0,none⟩) 2 2) (top+1)=True:=fun a b c=>eq_true (UL (ns:= [(at' S.R i).Self,(at' S.R i).Claim]) (CA (by omega) a b) (by simp only [List.length_cons,List.length_nil];omega) (.inr c) (by omega) (by omega) (by omega) (by simp) (by simp [hM]))
    have hrd:∀ {h':Hp},h' (top+4)=some (.cells true 1 [.int .i64 (at' S.R i).Self, .int .i64 (at' S.R i).Claim])→Ad.rd h' (.slice (some ⟨top+4,0,none⟩) 2 2)= [(at' S.R i).Self,(at' S.R i).Claim]:=fun a=>xN (ns:= [(at' S.R i).Self,(at' S.R i).Claim]) a (by simp)
    have hln:DM [114,111,117,116,101,114] [] [(at' S.R i).Self,(at' S.R i).Claim] = De (at' S.R i):=by simp [De,H4,Us,Ni,N2,H8,K3,ci]
    refine CW.vc FP [0,1,2,3,4,5,6,8,9,11,13,15,16,17,22,27,46,47,48,49,53,65,66,67,68,83,84,85,86,90,102,113,130,131,132,133,142,149] (by kernel_rfl) ?_
    (repeat ((try refine Vc.mk' ?_);simp (maxSteps:=6000000) only [go_sem,xd,hT,OZ,LL,Kg,LI,hpre,hrd,hbL,hbJ,hv1,AG t1,t2,AU,YX,kk,ii,hlt,hln,Eg h1,Ed h1,F2 h1,Fy h1,Fv h1,D0 h1,D1 h1,D3 h1,D6 h1,D4 h1,D2 h1,h1.P,h1.oc,h1.cl,h1.rd,h1.ref,Aj s1,AZ s1,AY s1,AX h1 s1 C2,ci]))
    refine .mk (i+1) hlt (by omega) (by
     simp only [xd]
     rw [hnx]
     refine Lq (top+5) hcl (by omega) ?_ ?_ ?_ ?_ ?_ (hob hlo)
     ·simp [OZ,Gk,KI,Av,DA,E0,Dq,Sc.Av hlo s1]
     ·simp [Bc.set,Bc.refl]
     ·simp [AQ,AF,Bw]
     ·simp [AQ,AF]
     ·simp [AQ,AF])
  ·have hk2:i=S.R.length:=by omega
   subst hk2
   rw [List.take_length] at hTn hTl
   generalize hT:Cr S ++ A1 De S.R=T at hTn hTl
   have ii:¬((S.R.length:Int) < (S.R.length:Int)):=by omega
   refine CW.vc FP [0,1,2,3,4,5,6,8,9,11,13,15,16,17,22,27,46,47,48,49,53,65,66,67,68,83,84,85,86,90,102,113,130,131,132,133,142,149] (by kernel_rfl) ?_
   (repeat ((try refine Vc.mk' ?_);simp (maxSteps:=6000000) only [go_sem,xd,List.take_length,hT,OZ,LL,Bw,ii,decide_false,BM h2,BL h2,Bq h2,Bp h2,Bo h2,BD h2,BC h2,BB h2,BG h2,BF h2,BE h2,h2.P,h2.oc,h2.cl,h2.rd,h2.ref,Aj s2,AZ s2,AY s2,AX h2 s2 BZ]))
   simp only [←hT]
   refine CW.D9 (JS hp top S r k u o) (fun i=>i≤S.K.length) (fun i=>S.K.length - i) 0 (Nat.zero_le _) ?_ ?_
   ·simp only [JS,List.take_zero,A1,List.append_nil]
    refine Lq (top+2) hcl (by omega) ?_ ?_ ?_ ?_ ?_ (hob hlo)
    ·simp [OZ,Gk,KI,Av,DA,E0,Dq,Sc.Av hlo s2]
    ·simp [Bc.set,Bc.refl]
    ·simp [AQ,AF,Bw]
    ·simp [AQ,AF]
    ·simp [AQ,AF]
   ·intro i hi
    have hTn:Cr S ++ A1 De S.R ++ A1 Fh (S.K.take i)≠ []:=by simp [Cr,DM]
    have hTl:(Cr S ++ A1 De S.R ++ A1 Fh (S.K.take i)).length≤1000000000:=by
     have:=FZ (f:=Fh) (n:=200) (l:=S.K.take i) fun c hc=>TC (hG.K c (List.mem_of_mem_take hc))
     rw [List.length_take] at this
     simp only [List.length_append];omega
    by_cases hlt:i < S.K.length
    ·have ii:((i:Int) < (S.K.length:Int)):=by omega
     have kk:Ar .i64 ((i:Int)+1)=((i+1:Nat):Int):=B0 hlt (by omega)
     have hM:=hG.K _ (show at' S.K i∈S.K by rw [Cb _ _ hlt];exact List.getElem_mem hlt)
     have hnx:Cr S ++ A1 De S.R ++ A1 Fh (S.K.take (i+1))=(Cr S ++ A1 De S.R ++ A1 Fh (S.K.take i)) ++ Fh (at' S.K i):=by rw [DV hlt,GR];simp only [List.append_assoc]
     generalize hT:Cr S ++ A1 De S.R ++ A1 Fh (S.K.take i)=T at hTn hTl hnx
     have hbL:∀ {h':Hp},h' (top+1)=CJ (.pointer (some ⟨top+1,0,none⟩)) (AA (top+2) T)→h' (top+2)=G7 T→KG h' (top+1)=T:=fun a b=>(CA (by omega) a b).MA
     have hbJ:∀ {h':Hp} {t:Nat},h' (top+1)=CJ (.pointer (some ⟨top+1,0,none⟩)) (AA (top+2) T)→h' (top+2)=G7 T→Hh h' (top+1) t=top+2:=fun a b=>(CA (by omega) a b).NJ hTn
     have hpre:∀ {h':Hp},h' (top+1)=CJ (.pointer (some ⟨top+1,0,none⟩)) (AA (top+2) T)→h' (top+2)=G7 T→h' (top+4)=some (.cells true 1 [.int .i64 (at' S.K i).A, .int .i64 (at' S.K i).B, .int .i64 (at' S.K i).Er])→L9 h' [108,105,110,107] [] (.slice (some ⟨top+4,0,none⟩) 3 3) (top+1)=True:=fun a b c=>eq_true (UL (ns:= [(at' S.K i).A,(at' S.K i).B,(at' S.K i).Er]) (CA (by omega) a b) (by simp only [List.length_cons,List.length_nil];omega) (.inr c) (by omega) (by omega) (by omega) (by simp) (by simp [hM]))
     have hrd:∀ {h':Hp},h' (top+4)=some (.cells true 1 [.int .i64 (at' S.K i).A, .int .i64 (at' S.K i).B, .int .i64 (at' S.K i).Er])→Ad.rd h' (.slice (some ⟨top+4,0,none⟩) 3 3)= [(at' S.K i).A,(at' S.K i).B,(at' S.K i).Er]:=fun a=>xN (ns:= [(at' S.K i).A,(at' S.K i).B,(at' S.K i).Er]) a (by simp)
     have hln:DM [108,105,110,107] [] [(at' S.K i).A,(at' S.K i).B,(at' S.K i).Er] = Fh (at' S.K i):=by simp [Fh,H4,Us,Ni,N2,H8,K3]
     refine CW.vc FP [0,1,2,3,4,5,6,8,9,11,13,15,16,17,22,27,46,47,48,49,53,65,66,67,68,83,84,85,86,90,102,113,130,131,132,133,142,149] (by kernel_rfl) ?_
     (repeat ((try refine Vc.mk' ?_);simp (maxSteps:=6000000) only [go_sem,JS,hT,OZ,LL,Kg,LI,hpre,hrd,hbL,hbJ,hv1,AG t1,t2,AU,YX,kk,ii,hlt,hln,BM h2,BL h2,Bq h2,Bp h2,Bo h2,BD h2,BC h2,BB h2,BG h2,BF h2,BE h2,h2.P,h2.oc,h2.cl,h2.rd,h2.ref,Aj s2,AZ s2,AY s2,AX h2 s2 BZ,hlt]))
     refine .mk (i+1) hlt (by omega) (by
      simp only [JS]
      rw [hnx]
      refine Lq (top+5) hcl (by omega) ?_ ?_ ?_ ?_ ?_ (hob hlo)
      ·simp [OZ,Gk,KI,Av,DA,E0,Dq,Sc.Av hlo s2]
      ·simp [Bc.set,Bc.refl]
      ·simp [AQ,AF,Bw]
      ·simp [AQ,AF]
      ·simp [AQ,AF])
    ·have hk2:i=S.K.length:=by omega
     subst hk2
     rw [List.take_length] at hTn hTl
     generalize hT:Cr S ++ A1 De S.R ++ A1 Fh S.K=T at hTn hTl
     have ii:¬((S.K.length:Int) < (S.K.length:Int)):=by omega
     refine CW.vc FP [0,1,2,3,4,5,6,8,9,11,13,15,16,17,22,27,46,47,48,49,53,65,66,67,68,83,84,85,86,90,102,113,130,131,132,133,142,149] (by kernel_rfl) ?_
     (repeat ((try refine Vc.mk' ?_);simp (maxSteps:=6000000) only [go_sem,JS,List.take_length,hT,OZ,LL,Bw,ii,decide_false,GO h3,GN h3,Hf h3,He h3,Hk h3,FW h3,E4 h3,FO h3,FQ h3,FI h3,E5 h3,E6 h3,E7 h3,FF h3,E9 h3,h3.P,h3.oc,h3.cl,h3.rd,h3.ref,Aj s3,AZ s3,AY s3,AX h3 s3 DW]))
     simp only [←hT]
     refine CW.D9 (pd hp top S r k u o) (fun i=>i≤S.U.length) (fun i=>S.U.length - i) 0 (Nat.zero_le _) ?_ ?_
     ·simp only [pd,List.take_zero,A1,List.append_nil]
      refine Lq (top+2) hcl (by omega) ?_ ?_ ?_ ?_ ?_ (hob hlo)
      ·simp [OZ,Gk,KI,Av,DA,E0,Dq,Sc.Av hlo s3]
      ·simp [Bc.set,Bc.refl]
      ·simp [AQ,AF,Bw]
      ·simp [AQ,AF]
      ·simp [AQ,AF]
     ·intro i hi
      have hTn:Cr S ++ A1 De S.R ++ A1 Fh S.K ++ A1 Gl (S.U.take i)≠ []:=by simp [Cr,DM]
      have hTl:(Cr S ++ A1 De S.R ++ A1 Fh S.K ++ A1 Gl (S.U.take i)).length≤1000000000:=by
       have:=FZ (f:=Gl) (n:=200) (l:=S.U.take i) fun c hc=>UA (hG.U c (List.mem_of_mem_take hc))
       rw [List.length_take] at this
       simp only [List.length_append];omega
      by_cases hlt:i < S.U.length
      ·have ii:((i:Int) < (S.U.length:Int)):=by omega
       have kk:Ar .i64 ((i:Int)+1)=((i+1:Nat):Int):=B0 hlt (by omega)
       have hM:=hG.U _ (show at' S.U i∈S.U by rw [Cb _ _ hlt];exact List.getElem_mem hlt)
       have hnx:Cr S ++ A1 De S.R ++ A1 Fh S.K ++ A1 Gl (S.U.take (i+1))=(Cr S ++ A1 De S.R ++ A1 Fh S.K ++ A1 Gl (S.U.take i)) ++ Gl (at' S.U i):=by rw [DV hlt,GR];simp only [List.append_assoc]
       generalize hT:Cr S ++ A1 De S.R ++ A1 Fh S.K ++ A1 Gl (S.U.take i)=T at hTn hTl hnx
       have hbL:∀ {h':Hp},h' (top+1)=CJ (.pointer (some ⟨top+1,0,none⟩)) (AA (top+2) T)→h' (top+2)=G7 T→KG h' (top+1)=T:=fun a b=>(CA (by omega) a b).MA
       have hbJ:∀ {h':Hp} {t:Nat},h' (top+1)=CJ (.pointer (some ⟨top+1,0,none⟩)) (AA (top+2) T)→h' (top+2)=G7 T→Hh h' (top+1) t=top+2:=fun a b=>(CA (by omega) a b).NJ hTn
       by_cases c1k:(at' S.U i).Kind=1
       ·have c1kt:=eq_true c1k
        have hpre:∀ {h':Hp},h' (top+1)=CJ (.pointer (some ⟨top+1,0,none⟩)) (AA (top+2) T)→h' (top+2)=G7 T→h' (top+4)=some (.cells true 1 [.int .i64 (at' S.U i).C9, .int .i64 (at' S.U i).To, .int .i64 (at' S.U i).KM])→L9 h' [100,114,111,112] [] (.slice (some ⟨top+4,0,none⟩) 3 3) (top+1)=True:=fun a b c=>eq_true (UL (ns:= [(at' S.U i).C9,(at' S.U i).To,(at' S.U i).KM]) (CA (by omega) a b) (by simp only [List.length_cons,List.length_nil];omega) (.inr c) (by omega) (by omega) (by omega) (by simp) (by simp [hM]))
        have hrd:∀ {h':Hp},h' (top+4)=some (.cells true 1 [.int .i64 (at' S.U i).C9, .int .i64 (at' S.U i).To, .int .i64 (at' S.U i).KM])→Ad.rd h' (.slice (some ⟨top+4,0,none⟩) 3 3)= [(at' S.U i).C9,(at' S.U i).To,(at' S.U i).KM]:=fun a=>xN (ns:= [(at' S.U i).C9,(at' S.U i).To,(at' S.U i).KM]) a (by simp)
        have hln:DM [100,114,111,112] [] [(at' S.U i).C9,(at' S.U i).To,(at' S.U i).KM] = Gl (at' S.U i):=by simp [Gl,H4,Us,Ni,N2,H8,K3,c1k]
        refine CW.vc FP [0,1,2,3,4,5,6,8,9,11,13,15,16,17,22,27,46,47,48,49,53,65,66,67,68,83,84,85,86,90,102,113,130,131,132,133,142,149] (by kernel_rfl) ?_
        (repeat ((try refine Vc.mk' ?_);simp (maxSteps:=6000000) only [go_sem,pd,hT,OZ,LL,Kg,LI,hpre,hrd,hbL,hbJ,hv1,AG t1,t2,AU,YX,kk,ii,hlt,hln,GO h3,GN h3,Hf h3,He h3,Hk h3,FW h3,E4 h3,FO h3,FQ h3,FI h3,E5 h3,E6 h3,E7 h3,FF h3,E9 h3,h3.P,h3.oc,h3.cl,h3.rd,h3.ref,Aj s3,AZ s3,AY s3,AX h3 s3 DW,c1k]))
        refine .mk (i+1) hlt (by omega) (by
         simp only [pd]
         rw [hnx]
         refine Lq (top+5) hcl (by omega) ?_ ?_ ?_ ?_ ?_ (hob hlo)
         ·simp [OZ,Gk,KI,Av,DA,E0,Dq,Sc.Av hlo s3]
         ·simp [Bc.set,Bc.refl]
         ·simp [AQ,AF,Bw]
         ·simp [AQ,AF]
         ·simp [AQ,AF])
       ·skip
        by_cases c2k:(at' S.U i).Kind=2
        ·have c2kt:=eq_true c2k
         have hpre:∀ {h':Hp},h' (top+1)=CJ (.pointer (some ⟨top+1,0,none⟩)) (AA (top+2) T)→h' (top+2)=G7 T→h' (top+4)=some (.cells true 1 [.int .i64 (at' S.U i).C9, .int .i64 (at' S.U i).To, .int .i64 (at' S.U i).KM, .int .i64 (at' S.U i).By])→L9 h' [100,111,117,98,108,101] [] (.slice (some ⟨top+4,0,none⟩) 4 4) (top+1)=True:=fun a b c=>eq_true (UL (ns:= [(at' S.U i).C9,(at' S.U i).To,(at' S.U i).KM,(at' S.U i).By]) (CA (by omega) a b) (by simp only [List.length_cons,List.length_nil];omega) (.inr c) (by omega) (by omega) (by omega) (by simp) (by simp [hM]))
         have hrd:∀ {h':Hp},h' (top+4)=some (.cells true 1 [.int .i64 (at' S.U i).C9, .int .i64 (at' S.U i).To, .int .i64 (at' S.U i).KM, .int .i64 (at' S.U i).By])→Ad.rd h' (.slice (some ⟨top+4,0,none⟩) 4 4)= [(at' S.U i).C9,(at' S.U i).To,(at' S.U i).KM,(at' S.U i).By]:=fun a=>xN (ns:= [(at' S.U i).C9,(at' S.U i).To,(at' S.U i).KM,(at' S.U i).By]) a (by simp)
         have hln:DM [100,111,117,98,108,101] [] [(at' S.U i).C9,(at' S.U i).To,(at' S.U i).KM,(at' S.U i).By] = Gl (at' S.U i):=by simp [Gl,H4,Us,Ni,N2,H8,K3,c2k]
         refine CW.vc FP [0,1,2,3,4,5,6,8,9,11,13,15,16,17,22,27,46,47,48,49,53,65,66,67,68,83,84,85,86,90,102,113,130,131,132,133,142,149] (by kernel_rfl) ?_
         (repeat ((try refine Vc.mk' ?_);simp (maxSteps:=6000000) only [go_sem,pd,hT,OZ,LL,Kg,LI,hpre,hrd,hbL,hbJ,hv1,AG t1,t2,AU,YX,kk,ii,hlt,hln,GO h3,GN h3,Hf h3,He h3,Hk h3,FW h3,E4 h3,FO h3,FQ h3,FI h3,E5 h3,E6 h3,E7 h3,FF h3,E9 h3,h3.P,h3.oc,h3.cl,h3.rd,h3.ref,Aj s3,AZ s3,AY s3,AX h3 s3 DW,c2k]))
         refine .mk (i+1) hlt (by omega) (by
          simp only [pd]
          rw [hnx]
          refine Lq (top+5) hcl (by omega) ?_ ?_ ?_ ?_ ?_ (hob hlo)
          ·simp [OZ,Gk,KI,Av,DA,E0,Dq,Sc.Av hlo s3]
          ·simp [Bc.set,Bc.refl]
          ·simp [AQ,AF,Bw]
          ·simp [AQ,AF]
          ·simp [AQ,AF])
        ·skip
         have hpre:∀ {h':Hp},h' (top+1)=CJ (.pointer (some ⟨top+1,0,none⟩)) (AA (top+2) T)→h' (top+2)=G7 T→h' (top+4)=some (.cells true 1 [.int .i64 (at' S.U i).C9, .int .i64 (at' S.U i).To, .int .i64 (at' S.U i).KM, .int .i64 (at' S.U i).By])→L9 h' [100,101,108,97,121] [] (.slice (some ⟨top+4,0,none⟩) 4 4) (top+1)=True:=fun a b c=>eq_true (UL (ns:= [(at' S.U i).C9,(at' S.U i).To,(at' S.U i).KM,(at' S.U i).By]) (CA (by omega) a b) (by simp only [List.length_cons,List.length_nil];omega) (.inr c) (by omega) (by omega) (by omega) (by simp) (by simp [hM]))
         have hrd:∀ {h':Hp},h' (top+4)=some (.cells true 1 [.int .i64 (at' S.U i).C9, .int .i64 (at' S.U i).To, .int .i64 (at' S.U i).KM, .int .i64 (at' S.U i).By])→Ad.rd h' (.slice (some ⟨top+4,0,none⟩) 4 4)= [(at' S.U i).C9,(at' S.U i).To,(at' S.U i).KM,(at' S.U i).By]:=fun a=>xN (ns:= [(at' S.U i).C9,(at' S.U i).To,(at' S.U i).KM,(at' S.U i).By]) a (by simp)
         have hln:DM [100,101,108,97,121] [] [(at' S.U i).C9,(at' S.U i).To,(at' S.U i).KM,(at' S.U i).By] = Gl (at' S.U i):=by simp [Gl,H4,Us,Ni,N2,H8,K3,c1k,c2k]
         refine CW.vc FP [0,1,2,3,4,5,6,8,9,11,13,15,16,17,22,27,46,47,48,49,53,65,66,67,68,83,84,85,86,90,102,113,130,131,132,133,142,149] (by kernel_rfl) ?_
         (repeat ((try refine Vc.mk' ?_);simp (maxSteps:=6000000) only [go_sem,pd,hT,OZ,LL,Kg,LI,hpre,hrd,hbL,hbJ,hv1,AG t1,t2,AU,YX,kk,ii,hlt,hln,GO h3,GN h3,Hf h3,He h3,Hk h3,FW h3,E4 h3,FO h3,FQ h3,FI h3,E5 h3,E6 h3,E7 h3,FF h3,E9 h3,h3.P,h3.oc,h3.cl,h3.rd,h3.ref,Aj s3,AZ s3,AY s3,AX h3 s3 DW,c1k,c2k]))
         refine .mk (i+1) hlt (by omega) (by
          simp only [pd]
          rw [hnx]
          refine Lq (top+5) hcl (by omega) ?_ ?_ ?_ ?_ ?_ (hob hlo)
          ·simp [OZ,Gk,KI,Av,DA,E0,Dq,Sc.Av hlo s3]
          ·simp [Bc.set,Bc.refl]
          ·simp [AQ,AF,Bw]
          ·simp [AQ,AF]
          ·simp [AQ,AF])
      ·have hk2:i=S.U.length:=by omega
       subst hk2
       rw [List.take_length] at hTn hTl
       generalize hT:Cr S ++ A1 De S.R ++ A1 Fh S.K ++ A1 Gl S.U=T at hTn hTl
       have ii:¬((S.U.length:Int) < (S.U.length:Int)):=by omega
       have hbL:∀ {h':Hp},h' (top+1)=CJ (.pointer (some ⟨top+1,0,none⟩)) (AA (top+2) T)→h' (top+2)=G7 T→KG h' (top+1)=T:=fun a b=>(CA (by omega) a b).MA
       have hbJ:∀ {h':Hp} {t:Nat},h' (top+1)=CJ (.pointer (some ⟨top+1,0,none⟩)) (AA (top+2) T)→h' (top+2)=G7 T→Hh h' (top+1) t=top+2:=fun a b=>(CA (by omega) a b).NJ hTn
       have hpre:∀ {h':Hp},h' (top+1)=CJ (.pointer (some ⟨top+1,0,none⟩)) (AA (top+2) T)→h' (top+2)=G7 T→L9 h' [112,108,97,121] [] (.slice none 0 0) (top+1)=True:=fun a b=>eq_true (UL (q:=top) (ns:= []) (CA (by omega) a b) (by simp only [List.length_cons,List.length_nil];omega) (.inl rfl) (by omega) (by omega) (by omega) (by simp) (by simp))
       have hrd:∀ {h':Hp},Ad.rd h' (.slice none 0 0)= []:=fun {h'}=>(BJ.nils (E:=Ad) (hp:=h')).rd
       have hln:DM [112,108,97,121] [] [] = DM br [] []:=rfl
       have hH:T ++ DM br [] [] = Io S:=by rw [←hT];rfl
       have hHl:(Io S).length≤1000000100:=by rw [←hH,List.length_append];have:(DM br [] []).length=5:=rfl;omega
       have hHn:Io S≠ []:=by rw [←hH];simp [hTn]
       refine CW.vc FP [0,1,2,3,4,5,6,8,9,11,13,15,16,17,22,27,46,47,48,49,53,65,66,67,68,83,84,85,86,90,102,113,130,131,132,133,142,149] (by kernel_rfl) ?_
       (repeat ((try refine Vc.mk' ?_);simp (maxSteps:=6000000) only [go_sem,pd,List.take_length,hT,OZ,LL,Bw,ii,decide_false,Kg,LI,hpre,hrd,hbL,hbJ,hv1,AG t1,t2,AU,YX,hln,hH,IH h4,IG h4,Ke h4,KU h4,Kz h4,Gs h4,Gt h4,Gu h4,GW h4,Gz h4,Gm h4,GX h4,Ge h4,Gn h4,Gp h4,Gx h4,Gi h4,Gg h4,GY h4,h4.P,h4.oc,h4.cl,h4.rd,h4.ref,Aj s4,AZ s4,AY s4,AX h4 s4 Hd]))
       clear hpre hbL hbJ hT hH hTn hTl
       refine CW.D9 (vY hp top S r k u o ops) (fun i=>i≤ops.length∧∀x∈ops.take i,(LH x).isSome=true) (fun i=>ops.length - i) 0 ⟨Nat.zero_le _,by simp⟩ ?_ ?_
       ·simp only [vY,List.take_zero,A1,List.append_nil]
        refine Lq (top+3) hcl (by omega) ?_ ?_ ?_ ?_ ?_ (hob hlo)
        ·simp [OZ,Gk,KI,Av,DA,E0,Dq,Sc.Av hlo s4]
        ·simp [Bc.set,Bc.refl]
        ·simp [AQ,AF,Bw]
        ·simp [AQ,AF]
        ·simp [AQ,AF]
       ·rintro i ⟨hi,hsm⟩
        have hTn:Io S ++ A1 DL (ops.take i)≠ []:=by simp [hHn]
        have hTl:(Io S ++ A1 DL (ops.take i)).length≤20000000000:=by
         have:=FZ (f:=DL) (n:=8001) (l:=ops.take i) fun c hc=>fP (hO c (List.mem_of_mem_take hc))
         rw [List.length_take] at this
         simp only [List.length_append];omega
        by_cases hlt:i < ops.length
        ·have ii:((i:Int) < (ops.length:Int)):=by omega
         have kk:Ar .i64 ((i:Int)+1)=((i+1:Nat):Int):=B0 hlt (by omega)
         have hmem:at' ops i∈ops:=by rw [Cb _ _ hlt];exact List.getElem_mem hlt
         have hM:=hO _ hmem
         have hI:=Vy hM
         have hEn:=E8 (x:=at' ops i)
         simp only [Aw] at hI hEn
         have hnx:Io S ++ A1 DL (ops.take (i+1))=(Io S ++ A1 DL (ops.take i)) ++ DL (at' ops i):=by rw [DV hlt,GR];simp only [List.append_assoc]
         generalize hT:Io S ++ A1 DL (ops.take i)=T at hTn hTl hnx
         have hbL:∀ {h':Hp},h' (top+1)=CJ (.pointer (some ⟨top+1,0,none⟩)) (AA (top+2) T)→h' (top+2)=G7 T→KG h' (top+1)=T:=fun a b=>(CA (by omega) a b).MA
         have hbJ:∀ {h':Hp} {t:Nat},h' (top+1)=CJ (.pointer (some ⟨top+1,0,none⟩)) (AA (top+2) T)→h' (top+2)=G7 T→Hh h' (top+1) t=top+2:=fun a b=>(CA (by omega) a b).NJ hTn
         cases hl:LH (at' ops i) with
         |none=>
          have e:e9 S ops=([],2):=by unfold e9;rw [if_neg (by simp [c1]),if_neg c2,Tn hmem hl]
          rw [e]
          have hlv:=jv hl
          refine CW.vc FP [0,1,2,3,4,5,6,8,9,11,13,15,16,17,22,27,46,47,48,49,53,65,66,67,68,83,84,85,86,90,102,113,130,131,132,133,142,149] (by kernel_rfl) ?_
          (repeat ((try refine Vc.mk' ?_);simp (maxSteps:=6000000) only [go_sem,vY,hT,OZ,LL,kk,ii,hlt,hv1,AG t1,fK,Hj,hI,hEn,hlv,tJ,IH h4,IG h4,Ke h4,KU h4,Kz h4,Gs h4,Gt h4,Gu h4,GW h4,Gz h4,Gm h4,GX h4,Ge h4,Gn h4,Gp h4,Gx h4,Gi h4,Gg h4,GY h4,h4.P,h4.oc,h4.cl,h4.rd,h4.ref,Aj s4,AZ s4,AY s4,AX h4 s4 Hd]))
         |some w=>
          have hlv:=bI hl
          obtain ⟨w1,w2⟩:=Nq hM hl
          have w2':(w= [])=False:=eq_false w2
          have hln:DM w [] [] = DL (at' ops i):=by unfold DL;rw [hl];rfl
          have hpre:∀ {h':Hp},h' (top+1)=CJ (.pointer (some ⟨top+1,0,none⟩)) (AA (top+2) T)→h' (top+2)=G7 T→L9 h' w [] (.slice none 0 0) (top+1)=True:=fun a b=>eq_true (UL (q:=top) (ns:= []) (CA (by omega) a b) (by simp only [List.length_cons,List.length_nil];omega) (.inl rfl) (by omega) (by omega) (by omega) (by simp) (by simp))
          have hrd:∀ {h':Hp},Ad.rd h' (.slice none 0 0)= []:=fun {h'}=>(BJ.nils (E:=Ad) (hp:=h')).rd
          refine CW.vc FP [0,1,2,3,4,5,6,8,9,11,13,15,16,17,22,27,46,47,48,49,53,65,66,67,68,83,84,85,86,90,102,113,130,131,132,133,142,149] (by kernel_rfl) ?_
          (repeat ((try refine Vc.mk' ?_);simp (maxSteps:=6000000) only [go_sem,vY,hT,fK,Hj,hI,hEn,hlv,w2',OZ,LL,Kg,LI,hpre,hrd,hbL,hbJ,hv1,AG t1,t2,AU,YX,kk,ii,hlt,hln,IH h4,IG h4,Ke h4,KU h4,Kz h4,Gs h4,Gt h4,Gu h4,GW h4,Gz h4,Gm h4,GX h4,Ge h4,Gn h4,Gp h4,Gx h4,Gi h4,Gg h4,GY h4,h4.P,h4.oc,h4.cl,h4.rd,h4.ref,Aj s4,AZ s4,AY s4,AX h4 s4 Hd]))
          refine .mk (i+1) ⟨hlt,fun x hx=>by rw [DV hlt] at hx;rcases List.mem_append.1 hx with h | h;exact hsm x h;rw [List.mem_singleton.1 h,hl];rfl⟩ (by omega) (by
           simp only [vY]
           rw [hnx]
           refine Lq (top+4) hcl (by omega) ?_ ?_ ?_ ?_ ?_ (hob hlo)
           ·simp [OZ,Gk,KI,Av,DA,E0,Dq,Sc.Av hlo s4]
           ·simp [Bc.set,Bc.refl]
           ·simp [AQ,AF,Bw]
           ·simp [AQ,AF]
           ·simp [AQ,AF])
        ·have hk2:i=ops.length:=by omega
         subst hk2
         rw [List.take_length] at hTn hTl hsm
         have e:e9 S ops=if 65536 < (Io S ++ A1 DL ops).length then ([],3) else (Io S ++ A1 DL ops,0):=by unfold e9;rw [if_neg (by simp [c1]),if_neg c2,Od hsm]
         rw [e]
         generalize hT:Io S ++ A1 DL ops=T at hTn hTl
         have hbL:∀ {h':Hp},h' (top+1)=CJ (.pointer (some ⟨top+1,0,none⟩)) (AA (top+2) T)→h' (top+2)=G7 T→KG h' (top+1)=T:=fun a b=>(CA (by omega) a b).MA
         have hbJ:∀ {h':Hp} {t:Nat},h' (top+1)=CJ (.pointer (some ⟨top+1,0,none⟩)) (AA (top+2) T)→h' (top+2)=G7 T→Hh h' (top+1) t=top+2:=fun a b=>(CA (by omega) a b).NJ hTn
         have ii:¬((ops.length:Int) < (ops.length:Int)):=by omega
         have hpL:∀ {h':Hp},h' (top+1)=CJ (.pointer (some ⟨top+1,0,none⟩)) (AA (top+2) T)→h' (top+2)=G7 T→(∃a j l_1,EL h' (top+1) a j l_1)=True:=fun a b=>eq_true ⟨_,_,_,CA (by omega) a b⟩
         have hpS:∀ {h':Hp},h' (top+1)=CJ (.pointer (some ⟨top+1,0,none⟩)) (AA (top+2) T)→h' (top+2)=G7 T→(∃a j l_1,EL h' (top+1) a j l_1∧l_1.length≤140737488355328)=True:=fun a b=>eq_true ⟨_,_,_,CA (by omega) a b,by omega⟩
         by_cases c5:65536 < T.length
         ·have c5':(65536:Int) < (T.length:Int):=by omega
          rw [if_pos c5]
          refine CW.vc FP [0,1,2,3,4,5,6,8,9,11,13,15,16,17,22,27,46,47,48,49,53,65,66,67,68,83,84,85,86,90,102,113,130,131,132,133,142,149] (by kernel_rfl) ?_
          (repeat ((try refine Vc.mk' ?_);simp (maxSteps:=6000000) only [go_sem,vY,List.take_length,hT,OZ,LL,ii,decide_false,jf,Nf,hpL,hbL,c5',tJ]))
         ·have c5':¬(65536:Int) < (T.length:Int):=by omega
          rw [if_neg c5]
          refine CW.vc FP [0,1,2,3,4,5,6,8,9,11,13,15,16,17,22,27,46,47,48,49,53,65,66,67,68,83,84,85,86,90,102,113,130,131,132,133,142,149] (by kernel_rfl) ?_
          (repeat ((try refine Vc.mk' ?_);simp (maxSteps:=6000000) only [go_sem,vY,List.take_length,hT,OZ,LL,ii,decide_false,jf,Nf,ua,Kw,hpL,hpS,hbL,hbJ,c5',tJ]))
end Go.Proofs.YthlhnangbinhoaaGreatDoor.Dm
