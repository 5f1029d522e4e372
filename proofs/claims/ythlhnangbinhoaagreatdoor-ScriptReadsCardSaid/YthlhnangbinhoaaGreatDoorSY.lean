/- Print, walked. -/
import Derived.Test.YthlhnangbinhoaaGreatDoorSX
set_option linter.unusedVariables false
namespace Go.Proofs.YthlhnangbinhoaaGreatDoor.Dm
open Go.Dm
set_option maxHeartbeats 64000000
set_option maxRecDepth 20000
noncomputable def X6:FuncId→BE:=BV nG 24 Mi
theorem FX:Bp Tryz.prog tt.get X6:=Ub.add ABm
theorem Nl:X6 24=Mi:=rfl
theorem X7:X6 23=GM (fun _=>True) DY:=rfl
theorem fy:X6 15=WI:=rfl
theorem th:X6 27=Pg:=rfl
theorem tj:X6 28=Iv:=rfl
def NF (hp:Hp)(top:Nat)(b:Option A8)(T:List UInt8):Hp:=hp.Ac [(top,b),(top+1,Cz (.pointer (some ⟨top+1,0,none⟩)) (AA (top+2) T)),(top+2,JT T)]
def SE (top:Nat)(fr:Cx):Cx:=(1, .pointer (some ⟨top,0,none⟩),true) :: (5, .pointer (some ⟨top+1,0,none⟩),true) :: (6, .func (.func 24) ⟨[]⟩ ⟨[.pointer (some ⟨top+1,0,none⟩)]⟩,true) :: fr
def stR (hp:Hp)(top:Nat)(S:BW)(r k u o:Value)(i:Nat):SS:=⟨SE top [(46,r,true),(47, .int .i64 (S.R.length:Int),true),(48, .int .i64 (i:Int),true)],NF hp top (Cb S r k u o) (CY S ++ BA DL (S.R.take i)),top+3⟩
def Hu (hp:Hp)(top:Nat)(S:BW)(r k u o:Value)(i:Nat):SS:=⟨SE top [(65,k,true),(66, .int .i64 (S.K.length:Int),true),(67, .int .i64 (i:Int),true)],NF hp top (Cb S r k u o) (CY S ++ BA DL S.R ++ BA Eg (S.K.take i)),top+3⟩
def stU (hp:Hp)(top:Nat)(S:BW)(r k u o:Value)(i:Nat):SS:=⟨SE top [(83,u,true),(84, .int .i64 (S.U.length:Int),true),(85, .int .i64 (i:Int),true)],NF hp top (Cb S r k u o) (CY S ++ BA DL S.R ++ BA Eg S.K ++ BA Hd (S.U.take i)),top+3⟩
def yf (hp:Hp)(top:Nat)(S:BW)(r k u o:Value)(ops:List A0)(i:Nat):SS:=⟨SE top [(130,o,true),(131, .int .i64 (ops.length:Int),true),(132, .int .i64 (i:Int),true)],NF hp top (Cb S r k u o) (Hb S ++ BA KU (ops.take i)),top+3⟩
theorem ABl {h:Hp}{i j q:Nat}{a:Value}{T w tl:List UInt8}{ns:List Int}(b:DZ h i a j T)(hr:T.length+w.length+tl.length≤140737488000000)(hq:ns= []∨h q=AD AL ns)(h1:q≠i)(h2:q≠j)(h3:j≠1)(h4:ns.length≤4)(h5:∀n∈ns,Ev n):Zi h w tl (AA q ns) i:=⟨⟨a,j,T,q,ns,b,hr,rfl,hq,h1,h2,h3,h4,h5⟩⟩
theorem rdN {h:Hp}{q:Nat}{ns:List Int}(hq:h q=AD AL ns)(hn:ns.length≤4):AL.rd h (AA q ns)=ns:=KV hq (by omega)
theorem Oh {hp h1:Hp}{top t:Nat}{fr fr':Cx}{T:List UInt8}{b:Option A8}(j:Nat)(hcl:Cl hp top)(hj:top+2≤j)
  (hfr:Ha (rn top [top,top+1,j] t) fr' fr) (hk:BK top [] h1 hp) (m0:h1 top=b) (m1:h1 (top+1)=Cz (.pointer (some ⟨top+1,0,none⟩)) (AA j T)) (m2:h1 j=JT T)
  (hb:GN (rn top [top,top+1,j] t) b=b):∃ρ,Al ρ top ⟨fr',NF hp top b T,top+3⟩ ⟨fr,h1,t⟩:=by
 have r0:rn top [top,top+1,j] t top=top:=Eu _ _ _
 have r1:rn top [top,top+1,j] t (top+1)=top+1:=Ci _ _ _ 1
 have r2:rn top [top,top+1,j] t (top+2)=j:=Ci _ _ _ 2
 refine Al.mk' [top,top+1,j] hcl (by simp;omega) (by simp;omega) (n:=3) rfl (AF hfr) (fun i hi hm=>hk i hi (by simp)) ?_
 simp only [FQ.cons,FQ.nil,r0,r1,r2,m0,m1,m2,hb,IX,K3,Av,Ao,or_true,and_self]
theorem dC {top:Nat}{T:List UInt8}(t1:1 < top)(hT:T≠ []){h':Hp}(a:h' (top+1)=Cz (.pointer (some ⟨top+1,0,none⟩)) (AA (top+2) T))(b:h' (top+2)=JT T):L0 h' (top+1)=T∧∀t,Hi h' (top+1) t=top+2:=⟨(FC (by omega) a b).PX,fun _=>(FC (by omega) a b).SG hT⟩
theorem s8 {top:Nat}{T w tl:List UInt8}{ns:List Int}(t1:1 < top)(hl:T.length+w.length+tl.length≤140737488000000)(h4:ns.length≤4)(hn:∀n∈ns,Ev n){h':Hp}(a:h' (top+1)=Cz (.pointer (some ⟨top+1,0,none⟩)) (AA (top+2) T))(b:h' (top+2)=JT T)(c:ns= []∨h' (top+4)=AD AL ns) :
  Zi h' w tl (AA (top+4) ns) (top+1)∧AL.rd h' (AA (top+4) ns)=ns:=
 ⟨ABl (FC (by omega) a b) hl c (by omega) (by omega) (by omega) h4 hn,by rcases c with rfl | c;exact BF.nils.rd;exact rdN c h4⟩
theorem mi2 (x y:Int):AD AL [x,y] = some (.cells true 1 [.int .i64 x, .int .i64 y]):=rfl
theorem mi3 (x y z:Int):AD AL [x,y,z] = some (.cells true 1 [.int .i64 x, .int .i64 y, .int .i64 z]):=rfl
theorem mi4 (x y z v:Int):AD AL [x,y,z,v] = some (.cells true 1 [.int .i64 x, .int .i64 y, .int .i64 z, .int .i64 v]):=rfl
theorem ms0 (b:Nat):AA b ([] :List Int)= .slice none 0 0:=rfl
theorem msc (b:Nat)(x:Int)(l:List Int):AA b (x :: l)= .slice (some ⟨b,0,none⟩) (l.length+1) (l.length+1):=rfl
theorem ABn:Ag Tryz.prog 9 Zz:=by
 refine .EK iu (fun args hp h=> ?_) ?_
 ·match args,h with
  | [v],_=>rfl
 intro args hp hpre top hcl hsc
 match args,hpre with
 | [v],⟨⟨S,ops,hS,hG,hO⟩,hv⟩=>
 have ht5:=Em hcl hv
 have hv1:hp 1=some VH:=hv.1
 have t1:1 < top:=by omega
 have t2:2≤top+1:=by omega
 have hd:=hS.d
 have lR:=hS.rl
 have lK:=hS.kl
 have lU:=hS.ul
 have lO:=hS.ol
 obtain ⟨r,k,u,o,rfl,h1,h2,h3,h4⟩:=hS.ex
 have s1:=h1.low hcl
 have s2:=h2.low hcl
 have s3:=h3.low hcl
 have s4:=h4.low hcl
 have hSV:∀ {h':Hp},BK top [] h' hp→H5 h' (.agg ⟨[.int .i64 S.W, .int .i64 S.A, .int .i64 S.T, .int .i64 S.L,r,k,u]⟩) S:=fun {h'} hk=>⟨⟨r,k,u,rfl,h1.Ax s1 hk,h2.Ax s2 hk,h3.Ax s3 hk⟩,lR,lK,lU⟩
 have hE:∀ {h':Hp},BK top [] h' hp→(∃Z,H5 h' (.agg ⟨[.int .i64 S.W, .int .i64 S.A, .int .i64 S.T, .int .i64 S.L,r,k,u]⟩) Z)=True:=fun {h'} hk=>eq_true ⟨S,hSV hk⟩
 have hD:∀ {h':Hp},BK top [] h' hp→GP h' (.agg ⟨[.int .i64 S.W, .int .i64 S.A, .int .i64 S.T, .int .i64 S.L,r,k,u]⟩)=S:=fun {h'} hk=>(hSV hk).d
 simp only [hd]
 unfold Eb
 refine AJ.Af Am iu rfl 151 rfl [.tmp 2, .tmp 3] rfl (show 1≤151 by decide) ?_
 by_cases c1:DY S=0
 case neg=>
  have e:mz S ops=([],DY S):=by unfold mz;rw [if_pos c1]
  rw [e]
  refine CW.vc FX [0,1,2,3,4,5,6,8,9,11,13,15,16,17,22,27,46,47,48,49,53,65,66,67,68,83,84,85,86,90,102,113,130,131,132,133,142,149] (by kernel_rfl) ?_
  (repeat ((try refine Vc.mk' ?_);simp (maxSteps:=6000000) only [go_sem,X7,GM,hE,hD,hv,CR ht5,c1,yc]))
 by_cases c2:512 < ops.length
 ·have e:mz S ops=([],3):=by unfold mz;rw [if_neg (by simp [c1]),if_pos c2]
  have c2':(512:Int) < (ops.length:Int):=by omega
  rw [e]
  refine CW.vc FX [0,1,2,3,4,5,6,8,9,11,13,15,16,17,22,27,46,47,48,49,53,65,66,67,68,83,84,85,86,90,102,113,130,131,132,133,142,149] (by kernel_rfl) ?_
  (repeat ((try refine Vc.mk' ?_);simp (maxSteps:=6000000) only [go_sem,X7,GM,hE,hD,hv,CR ht5,c1,yc,c2',JB h4]))
 have c2':¬(512:Int) < (ops.length:Int):=by omega
 have hz:hp (top+3)=none:=by
  cases h:hp (top+3) with
  |none=>rfl
  |some o=>have:=hcl.lt _ _ h;omega
 have hB0:∀ {h':Hp},h' (top+1)=some (.cells true CV [.pointer none, .slice none 0 0])→h' (top+3)=none→DZ h' (top+1) (.pointer none) (top+3) []:=fun a b=>⟨a, .inl rfl,b,by omega⟩
 have hp0:∀ {h':Hp},h' (top+1)=some (.cells true CV [.pointer none, .slice none 0 0])→h' (top+3)=none→h' (top+2)=some (.cells true 1 [.int .i64 S.W, .int .i64 S.A, .int .i64 S.T, .int .i64 S.L])→Zi h' [119,111,114,108,100] [] (.slice (some ⟨top+2,0,none⟩) 4 4) (top+1)=True:=fun a b c=>eq_true (ABl (ns:= [S.W,S.A,S.T,S.L]) (hB0 a b) (by decide) (.inr c) (by omega) (by omega) (by omega) (by simp) (by simp [hG.w,hG.a,hG.t,hG.l]))
 have hr0:∀ {h':Hp},h' (top+2)=some (.cells true 1 [.int .i64 S.W, .int .i64 S.A, .int .i64 S.T, .int .i64 S.L])→AL.rd h' (.slice (some ⟨top+2,0,none⟩) 4 4)= [S.W,S.A,S.T,S.L]:=fun a=>rdN (ns:= [S.W,S.A,S.T,S.L]) a (by simp)
 have hl0:EJ [119,111,114,108,100] [] [S.W,S.A,S.T,S.L] = CY S:=rfl
 have hbL0:∀ {h':Hp},h' (top+1)=some (.cells true CV [.pointer none, .slice none 0 0])→h' (top+3)=none→L0 h' (top+1)= []:=fun a b=>(hB0 a b).PX
 have hbJ0:∀ {h':Hp} {t:Nat},h' (top+1)=some (.cells true CV [.pointer none, .slice none 0 0])→h' (top+3)=none→Hi h' (top+1) t=t:=fun a b=>(hB0 a b).TF
 refine CW.vc FX [0,1,2,3,4,5,6,8,9,11,13,15,16,17,22,27,46,47,48,49,53,65,66,67,68,83,84,85,86,90,102,113,130,131,132,133,142,149] (by kernel_rfl) ?_
 (repeat ((try refine Vc.mk' ?_);simp (maxSteps:=6000000) only [go_sem,X7,GM,hE,hD,hv,CR ht5,c1,c2',JB h4,Nl,Mi,hp0,hr0,hl0,hbL0,hbJ0,hz,hv1,Bw t1,t2,AH,ff,Ex,FP,CS h1]))
 have hob:∀ {ρ:Nat→Nat},(∀j,j < top→ρ j=j)→GN ρ (Cb S r k u o)=Cb S r k u o:=fun {ρ} h=>by
  simp only [Cb,GN,HE,Cg,Ao,Sc.Ao h s1,Sc.Ao h s2,Sc.Ao h s3,Sc.Ao h s4]
 have hlo:∀ {bs:List Nat} {z:Nat} (j:Nat),j < top→rn top bs z j=j:=fun j hj=>AE hj
 have hwl:=Ff (w:=Za) (tl:= []) (ns:= [S.W,S.A,S.T,S.L]) (by simp [hG.w,hG.a,hG.t,hG.l])
 have hWl:(CY S).length≤200:=by
  unfold CY
  have:Za.length=5:=rfl
  simp only [List.length_cons,List.length_nil] at hwl ⊢;omega
 have hRl:=E4 (f:=DL) (n:=200) (l:=S.R) fun c hc=>Ss (hG.R c hc)
 have hKl:=E4 (f:=Eg) (n:=200) (l:=S.K) fun c hc=>TK (hG.K c hc)
 have hUl:=E4 (f:=Hd) (n:=200) (l:=S.U) fun c hc=>Tf (hG.U c hc)
 refine CW.Bc (stR hp top S r k u o) (fun i=>i≤S.R.length) (fun i=>S.R.length - i) 0 (Nat.zero_le _) ?_ ?_
 ·simp only [stR,List.take_zero,BA,List.append_nil]
  exact Oh (top+3) hcl (by omega) (by simp [SE,Ha,Hx,Ao,Cg,Eu,Ci,Sc.Ao hlo s1]) (by simp [BK.set,BK.refl]) (by simp [Aj,AY,Cb]) (by simp [AY]) (by simp [Aj,AY]) (hob hlo)
 intro i hi
 have hTn:CY S ++ BA DL (S.R.take i)≠ []:=by simp [CY,EJ]
 have hTl:(CY S ++ BA DL (S.R.take i)).length≤1000000000:=by
  have:=E4 (f:=DL) (n:=200) (l:=S.R.take i) fun c hc=>Ss (hG.R c (List.mem_of_mem_take hc))
  rw [List.length_take] at this
  simp only [List.length_append];omega
 by_cases hlt:i < S.R.length
 ·have ii:((i:Int) < (S.R.length:Int)):=by omega
  have kk:Ad .i64 ((i:Int)+1)=((i+1:Nat):Int):=Ae hlt (by omega)
  have hM:=hG.R _ (show at' S.R i∈S.R by rw [BS _ _ hlt];exact List.getElem_mem hlt)
  have hnx:CY S ++ BA DL (S.R.take (i+1))=(CY S ++ BA DL (S.R.take i)) ++ DL (at' S.R i):=by rw [Bj hlt,IL];simp only [List.append_assoc]
  generalize hT:CY S ++ BA DL (S.R.take i)=T at hTn hTl hnx
  have hB:=fun {h'}=>dC (h':=h') t1 hTn
  rcases Classical.em ((at' S.R i).Er=true) with ci | ci
  case' inl=>have hpre:=fun {h'}=>s8 (top:=top) (T:=T) (w:= [114,111,117,116,101,114]) (tl:= [32,105,110,103,114,101,115,115]) (ns:= [(at' S.R i).Self,(at' S.R i).Claim]) t1 (by simp;omega) (by simp) (by simp [hM]) (h':=h')
  case' inr=>have hpre:=fun {h'}=>s8 (top:=top) (T:=T) (w:= [114,111,117,116,101,114]) (tl:= []) (ns:= [(at' S.R i).Self,(at' S.R i).Claim]) t1 (by simp;omega) (by simp) (by simp [hM]) (h':=h')
  all_goals
   simp only [mi2,msc,List.length_cons,List.length_nil,reduceCtorEq,false_or,Nat.zero_add,Nat.reduceAdd] at hpre
   simp only [DL,P9,rJ,ci,if_true,if_false,Bool.false_eq_true] at hnx
   refine CW.vc FX [0,1,2,3,4,5,6,8,9,11,13,15,16,17,22,27,46,47,48,49,53,65,66,67,68,83,84,85,86,90,102,113,130,131,132,133,142,149] (by kernel_rfl) ?_
   (repeat ((try refine Vc.mk' ?_);simp (maxSteps:=6000000) only [go_sem,stR,hT,SE,NF,Nl,Mi,hpre,hB,hv1,Bw t1,t2,AH,ff,kk,ii,hlt,DA h1,F8 h1,Ab s1,ci]))
   refine .mk (i+1) hlt (by omega) (by simp only [stR];rw [hnx];exact Oh (top+5) hcl (by omega) (by simp [SE,Ha,Hx,Ao,Cg,Eu,Ci,Sc.Ao hlo s1]) (by simp [BK.set,BK.refl]) (by simp [Aj,AY,Cb]) (by simp [AY]) (by simp [Aj,AY]) (hob hlo))
 obtain rfl:i=S.R.length:=by omega
 rw [List.take_length] at hTn hTl
 generalize hT:CY S ++ BA DL S.R=T at hTn hTl
 have ii:¬((S.R.length:Int) < (S.R.length:Int)):=by omega
 refine CW.vc FX [0,1,2,3,4,5,6,8,9,11,13,15,16,17,22,27,46,47,48,49,53,65,66,67,68,83,84,85,86,90,102,113,130,131,132,133,142,149] (by kernel_rfl) ?_
 (repeat ((try refine Vc.mk' ?_);simp (maxSteps:=6000000) only [go_sem,stR,List.take_length,hT,SE,NF,Cb,ii,decide_false,BH h2]))
 simp only [←hT]
 refine CW.Bc (Hu hp top S r k u o) (fun i=>i≤S.K.length) (fun i=>S.K.length - i) 0 (Nat.zero_le _) ?_ ?_
 ·simp only [Hu,List.take_zero,BA,List.append_nil]
  exact Oh (top+2) hcl (by omega) (by simp [SE,Ha,Hx,Ao,Cg,Eu,Ci,Sc.Ao hlo s2]) (by simp [BK.set,BK.refl]) (by simp [Aj,AY,Cb]) (by simp [Aj,AY]) (by simp [AY]) (hob hlo)
 intro i hi
 have hTn:CY S ++ BA DL S.R ++ BA Eg (S.K.take i)≠ []:=by simp [CY,EJ]
 have hTl:(CY S ++ BA DL S.R ++ BA Eg (S.K.take i)).length≤1000000000:=by
  have:=E4 (f:=Eg) (n:=200) (l:=S.K.take i) fun c hc=>TK (hG.K c (List.mem_of_mem_take hc))
  rw [List.length_take] at this
  simp only [List.length_append];omega
 by_cases hlt:i < S.K.length
 ·have ii:((i:Int) < (S.K.length:Int)):=by omega
  have kk:Ad .i64 ((i:Int)+1)=((i+1:Nat):Int):=Ae hlt (by omega)
  have hM:=hG.K _ (show at' S.K i∈S.K by rw [BS _ _ hlt];exact List.getElem_mem hlt)
  have hnx:CY S ++ BA DL S.R ++ BA Eg (S.K.take (i+1))=(CY S ++ BA DL S.R ++ BA Eg (S.K.take i)) ++ Eg (at' S.K i):=by rw [Bj hlt,IL];simp only [List.append_assoc]
  generalize hT:CY S ++ BA DL S.R ++ BA Eg (S.K.take i)=T at hTn hTl hnx
  have hB:=fun {h'}=>dC (h':=h') t1 hTn
  have ci:=True.intro
  have hpre:=fun {h'}=>s8 (top:=top) (T:=T) (w:= [108,105,110,107]) (tl:= []) (ns:= [(at' S.K i).A,(at' S.K i).B,(at' S.K i).Dx]) t1 (by simp;omega) (by simp) (by simp [hM]) (h':=h')
  all_goals
   simp only [mi3,msc,List.length_cons,List.length_nil,reduceCtorEq,false_or,Nat.zero_add,Nat.reduceAdd] at hpre
   simp only [Eg,cY] at hnx
   refine CW.vc FX [0,1,2,3,4,5,6,8,9,11,13,15,16,17,22,27,46,47,48,49,53,65,66,67,68,83,84,85,86,90,102,113,130,131,132,133,142,149] (by kernel_rfl) ?_
   (repeat ((try refine Vc.mk' ?_);simp (maxSteps:=6000000) only [go_sem,Hu,hT,SE,NF,Nl,Mi,hpre,hB,hv1,Bw t1,t2,AH,ff,kk,ii,hlt,BG h2,B4 h2,Ab s2]))
   refine .mk (i+1) hlt (by omega) (by simp only [Hu];rw [hnx];exact Oh (top+5) hcl (by omega) (by simp [SE,Ha,Hx,Ao,Cg,Eu,Ci,Sc.Ao hlo s2]) (by simp [BK.set,BK.refl]) (by simp [Aj,AY,Cb]) (by simp [AY]) (by simp [Aj,AY]) (hob hlo))
 obtain rfl:i=S.K.length:=by omega
 rw [List.take_length] at hTn hTl
 generalize hT:CY S ++ BA DL S.R ++ BA Eg S.K=T at hTn hTl
 have ii:¬((S.K.length:Int) < (S.K.length:Int)):=by omega
 refine CW.vc FX [0,1,2,3,4,5,6,8,9,11,13,15,16,17,22,27,46,47,48,49,53,65,66,67,68,83,84,85,86,90,102,113,130,131,132,133,142,149] (by kernel_rfl) ?_
 (repeat ((try refine Vc.mk' ?_);simp (maxSteps:=6000000) only [go_sem,Hu,List.take_length,hT,SE,NF,Cb,ii,decide_false,DB h3]))
 simp only [←hT]
 refine CW.Bc (stU hp top S r k u o) (fun i=>i≤S.U.length) (fun i=>S.U.length - i) 0 (Nat.zero_le _) ?_ ?_
 ·simp only [stU,List.take_zero,BA,List.append_nil]
  exact Oh (top+2) hcl (by omega) (by simp [SE,Ha,Hx,Ao,Cg,Eu,Ci,Sc.Ao hlo s3]) (by simp [BK.set,BK.refl]) (by simp [Aj,AY,Cb]) (by simp [Aj,AY]) (by simp [AY]) (hob hlo)
 intro i hi
 have hTn:CY S ++ BA DL S.R ++ BA Eg S.K ++ BA Hd (S.U.take i)≠ []:=by simp [CY,EJ]
 have hTl:(CY S ++ BA DL S.R ++ BA Eg S.K ++ BA Hd (S.U.take i)).length≤1000000000:=by
  have:=E4 (f:=Hd) (n:=200) (l:=S.U.take i) fun c hc=>Tf (hG.U c (List.mem_of_mem_take hc))
  rw [List.length_take] at this
  simp only [List.length_append];omega
 by_cases hlt:i < S.U.length
 ·have ii:((i:Int) < (S.U.length:Int)):=by omega
  have kk:Ad .i64 ((i:Int)+1)=((i+1:Nat):Int):=Ae hlt (by omega)
  have hM:=hG.U _ (show at' S.U i∈S.U by rw [BS _ _ hlt];exact List.getElem_mem hlt)
  have hnx:CY S ++ BA DL S.R ++ BA Eg S.K ++ BA Hd (S.U.take (i+1))=(CY S ++ BA DL S.R ++ BA Eg S.K ++ BA Hd (S.U.take i)) ++ Hd (at' S.U i):=by rw [Bj hlt,IL];simp only [List.append_assoc]
  generalize hT:CY S ++ BA DL S.R ++ BA Eg S.K ++ BA Hd (S.U.take i)=T at hTn hTl hnx
  have hB:=fun {h'}=>dC (h':=h') t1 hTn
  rcases Classical.em ((at' S.U i).Kind=1) with ci | ci
  case' inl=>have hpre:=fun {h'}=>s8 (top:=top) (T:=T) (w:= [100,114,111,112]) (tl:= []) (ns:= [(at' S.U i).C1,(at' S.U i).To,(at' S.U i).Kg]) t1 (by simp;omega) (by simp) (by simp [hM]) (h':=h')
  case' inr=>rcases Classical.em ((at' S.U i).Kind=2) with cj | cj
  case' inr.inl=>
   have hpre:=fun {h'}=>s8 (top:=top) (T:=T) (w:= [100,111,117,98,108,101]) (tl:= []) (ns:= [(at' S.U i).C1,(at' S.U i).To,(at' S.U i).Kg,(at' S.U i).By]) t1 (by simp;omega) (by simp) (by simp [hM]) (h':=h')
   replace ci:=And.intro ci cj
  case' inr.inr=>
   have hpre:=fun {h'}=>s8 (top:=top) (T:=T) (w:= [100,101,108,97,121]) (tl:= []) (ns:= [(at' S.U i).C1,(at' S.U i).To,(at' S.U i).Kg,(at' S.U i).By]) t1 (by simp;omega) (by simp) (by simp [hM]) (h':=h')
   replace ci:=And.intro ci cj
  all_goals
   simp only [mi3,mi4,msc,List.length_cons,List.length_nil,reduceCtorEq,false_or,Nat.zero_add,Nat.reduceAdd] at hpre
   simp only [Hd,cX,P8,Vb,ci,if_false,if_pos] at hnx
   refine CW.vc FX [0,1,2,3,4,5,6,8,9,11,13,15,16,17,22,27,46,47,48,49,53,65,66,67,68,83,84,85,86,90,102,113,130,131,132,133,142,149] (by kernel_rfl) ?_
   (repeat ((try refine Vc.mk' ?_);simp (maxSteps:=6000000) only [go_sem,stU,hT,SE,NF,Nl,Mi,hpre,hB,hv1,Bw t1,t2,AH,ff,kk,ii,hlt,FZ h3,IU h3,Ab s3,ci]))
   refine .mk (i+1) hlt (by omega) (by simp only [stU];rw [hnx];exact Oh (top+5) hcl (by omega) (by simp [SE,Ha,Hx,Ao,Cg,Eu,Ci,Sc.Ao hlo s3]) (by simp [BK.set,BK.refl]) (by simp [Aj,AY,Cb]) (by simp [AY]) (by simp [Aj,AY]) (hob hlo))
 obtain rfl:i=S.U.length:=by omega
 rw [List.take_length] at hTn hTl
 generalize hT:CY S ++ BA DL S.R ++ BA Eg S.K ++ BA Hd S.U=T at hTn hTl
 have ii:¬((S.U.length:Int) < (S.U.length:Int)):=by omega
 have hB:=fun {h'}=>dC (h':=h') t1 hTn
 have hpre:=fun {h'}=>s8 (top:=top) (T:=T) (w:= [112,108,97,121]) (tl:= []) (ns:= []) t1 (by simp;omega) (by simp) (by simp) (h':=h')
 simp only [ms0,true_or,true_implies] at hpre
 have hln:EJ [112,108,97,121] [] [] = EJ cZ [] []:=rfl
 have hH:T ++ EJ cZ [] [] = Hb S:=by rw [←hT];rfl
 have hHl:(Hb S).length≤1000000100:=by rw [←hH,List.length_append];have:(EJ cZ [] []).length=5:=rfl;omega
 have hHn:Hb S≠ []:=by rw [←hH];simp [hTn]
 refine CW.vc FX [0,1,2,3,4,5,6,8,9,11,13,15,16,17,22,27,46,47,48,49,53,65,66,67,68,83,84,85,86,90,102,113,130,131,132,133,142,149] (by kernel_rfl) ?_
 (repeat ((try refine Vc.mk' ?_);simp (maxSteps:=6000000) only [go_sem,stU,List.take_length,hT,SE,NF,Cb,ii,decide_false,Nl,Mi,hpre,hB,hv1,Bw t1,t2,AH,ff,hln,hH,JB h4]))
 clear hpre hB hT hH hTn hTl
 refine CW.Bc (yf hp top S r k u o ops) (fun i=>i≤ops.length∧∀x∈ops.take i,(Ik x).isSome=true) (fun i=>ops.length - i) 0 ⟨Nat.zero_le _,by simp⟩ ?_ ?_
 ·simp only [yf,List.take_zero,BA,List.append_nil]
  exact Oh (top+3) hcl (by omega) (by simp [SE,Ha,Hx,Ao,Cg,Eu,Ci,Sc.Ao hlo s4]) (by simp [BK.set,BK.refl]) (by simp [Aj,AY,Cb]) (by simp [AY]) (by simp [Aj,AY]) (hob hlo)
 rintro i ⟨hi,hsm⟩
 have hTn:Hb S ++ BA KU (ops.take i)≠ []:=by simp [hHn]
 have hTl:(Hb S ++ BA KU (ops.take i)).length≤20000000000:=by
  have:=E4 (f:=KU) (n:=8001) (l:=ops.take i) fun c hc=>jy (hO c (List.mem_of_mem_take hc))
  rw [List.length_take] at this
  simp only [List.length_append];omega
 by_cases hlt:i < ops.length
 ·have ii:((i:Int) < (ops.length:Int)):=by omega
  have kk:Ad .i64 ((i:Int)+1)=((i+1:Nat):Int):=Ae hlt (by omega)
  have hmem:at' ops i∈ops:=by rw [BS _ _ hlt];exact List.getElem_mem hlt
  have hM:=hO _ hmem
  have hI:=Ut hM
  have hEn:=Ej (x:=at' ops i)
  simp only [Az] at hI hEn
  have hnx:Hb S ++ BA KU (ops.take (i+1))=(Hb S ++ BA KU (ops.take i)) ++ KU (at' ops i):=by rw [Bj hlt,IL];simp only [List.append_assoc]
  generalize hT:Hb S ++ BA KU (ops.take i)=T at hTn hTl hnx
  have hB:=fun {h'}=>dC (h':=h') t1 hTn
  cases hl:Ik (at' ops i) with
  |none=>
   have e:mz S ops=([],2):=by unfold mz;rw [if_neg (by simp [c1]),if_neg c2,TV hmem hl]
   rw [e]
   have hlv:=W0 hl
   refine CW.vc FX [0,1,2,3,4,5,6,8,9,11,13,15,16,17,22,27,46,47,48,49,53,65,66,67,68,83,84,85,86,90,102,113,130,131,132,133,142,149] (by kernel_rfl) ?_
   (repeat ((try refine Vc.mk' ?_);simp (maxSteps:=6000000) only [go_sem,yf,hT,SE,NF,ii,hlt,hv1,Bw t1,fy,WI,hI,hEn,hlv,yc,Pv h4,U3 h4,Ab s4]))
  |some w=>
   have hlv:=W1 hl
   obtain ⟨w1,w2⟩:=bS hM hl
   have w2':(w= [])=False:=eq_false w2
   have hln:EJ w [] [] = KU (at' ops i):=by unfold KU;rw [hl];rfl
   have hpre:=fun {h'}=>s8 (top:=top) (T:=T) (w:=w) (tl:= []) (ns:= []) t1 (by simp;omega) (by simp) (by simp) (h':=h')
   simp only [ms0,true_or,true_implies] at hpre
   refine CW.vc FX [0,1,2,3,4,5,6,8,9,11,13,15,16,17,22,27,46,47,48,49,53,65,66,67,68,83,84,85,86,90,102,113,130,131,132,133,142,149] (by kernel_rfl) ?_
   (repeat ((try refine Vc.mk' ?_);simp (maxSteps:=6000000) only [go_sem,yf,hT,fy,WI,hI,hEn,hlv,w2',SE,NF,Nl,Mi,hpre,hB,hv1,Bw t1,t2,AH,ff,kk,ii,hlt,hln,Pv h4,U3 h4,Ab s4]))
   refine .mk (i+1) ⟨hlt,fun x hx=>by rw [Bj hlt] at hx;rcases List.mem_append.1 hx with h | h;exact hsm x h;rw [List.mem_singleton.1 h,hl];rfl⟩ (by omega) (by simp only [yf];rw [hnx];exact Oh (top+4) hcl (by omega) (by simp [SE,Ha,Hx,Ao,Cg,Eu,Ci,Sc.Ao hlo s4]) (by simp [BK.set,BK.refl]) (by simp [Aj,AY,Cb]) (by simp [AY]) (by simp [Aj,AY]) (hob hlo))
 obtain rfl:i=ops.length:=by omega
 rw [List.take_length] at hTn hTl hsm
 have e:mz S ops=if 65536 < (Hb S ++ BA KU ops).length then ([],3) else (Hb S ++ BA KU ops,0):=by unfold mz;rw [if_neg (by simp [c1]),if_neg c2,TW hsm]
 rw [e]
 generalize hT:Hb S ++ BA KU ops=T at hTn hTl
 have hB:=fun {h'}=>dC (h':=h') t1 hTn
 have ii:¬((ops.length:Int) < (ops.length:Int)):=by omega
 have hpS:∀ {h':Hp},h' (top+1)=Cz (.pointer (some ⟨top+1,0,none⟩)) (AA (top+2) T)→h' (top+2)=JT T→(∃a j l_1,DZ h' (top+1) a j l_1∧l_1.length≤140737488355328)∧∃a j l_1,DZ h' (top+1) a j l_1:=fun a b=>⟨⟨_,_,_,FC (by omega) a b,by omega⟩,_,_,_,FC (by omega) a b⟩
 by_cases c5:65536 < T.length
 case' pos=>rw [if_pos c5]
 case' neg=>rw [if_neg c5]
 all_goals
  have c6:(65536:Int) < (T.length:Int) ↔ 65536 < T.length:=by omega
  refine CW.vc FX [0,1,2,3,4,5,6,8,9,11,13,15,16,17,22,27,46,47,48,49,53,65,66,67,68,83,84,85,86,90,102,113,130,131,132,133,142,149] (by kernel_rfl) ?_
  (repeat ((try refine Vc.mk' ?_);simp (maxSteps:=6000000) only [go_sem,yf,List.take_length,hT,SE,NF,ii,decide_false,th,Pg,tj,Iv,hpS,hB,c6,c5,yc]))
end Go.Proofs.YthlhnangbinhoaaGreatDoor.Dm
