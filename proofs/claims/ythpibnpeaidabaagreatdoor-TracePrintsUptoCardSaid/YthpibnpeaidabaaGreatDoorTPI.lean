import Derived.Test.YthpibnpeaidabaaGreatDoorTPP
set_option linter.unusedVariables false
namespace Go.Proofs.YthpibnpeaidabaaGreatDoor.Dm
open Go.Dm
set_option maxHeartbeats 16000000
set_option maxRecDepth 20000
def Fi (x:Int):List Int→List Int
 | []=> [x]
 |y :: l=>if y < x then y :: Fi x l else if y=x then y :: l else x :: y :: l
def IP:List AE→List Int→List Int
 | [],o=>o
 |e :: l,o=>IP l (Fi e.Id o)
def GQ (l:List AE):List Int:=IP l []
theorem Nu:∀(l:List AE) (o:List Int) (e:AE),IP (l ++ [e]) o=Fi e.Id (IP l o)
 | [],_,_=>rfl
 |x :: l,o,e=>Nu l (Fi x.Id o) e
theorem WS {l:List AE}{k:Nat}(h:k < l.length):GQ (l.take (k+1))=Fi (at' l k).Id (GQ (l.take k)):=by
 unfold GQ;rw [E9 h,Nu]
theorem Mg:∀(l:List Int) (x z:Int),z∈Fi x l ↔ z=x∨z∈l
 | [],x,z=>by simp [Fi]
 |y :: l,x,z=>by
  rw [Fi]
  split
  ·rw [List.mem_cons,Mg l x z,List.mem_cons]
   constructor
   ·rintro (h | h | h) <;> simp [h]
   ·rintro (h | h | h) <;> simp [h]
  ·split
   ·rename_i h;rw [List.mem_cons,h]
    constructor
    ·rintro (h | h) <;> simp [h]
    ·rintro (h | h | h) <;> simp [h]
   ·rw [List.mem_cons]
theorem U1:∀(l:List Int) (x:Int),l.Pairwise (· < ·)→(Fi x l).Pairwise (· < ·)
 | [],x,_=>by simp [Fi]
 |y :: l,x,h=>by
  obtain ⟨h1,h2⟩:=List.pairwise_cons.1 h
  rw [Fi]
  split
  ·rename_i hlt
   refine List.pairwise_cons.2 ⟨fun z hz=> ?_,U1 l x h2⟩
   rcases (Mg l x z).1 hz with rfl | hz
   ·exact hlt
   ·exact h1 z hz
  ·split
   ·exact h
   ·rename_i h3 h4
    refine List.pairwise_cons.2 ⟨fun z hz=> ?_,h⟩
    rcases List.mem_cons.1 hz with rfl | hz
    ·omega
    ·have:=h1 z hz;omega
theorem Xe:∀ {l m:List Int},l.Pairwise (· < ·)→m.Pairwise (· < ·)→(∀x,x∈l ↔ x∈m)→l=m
 | [], [],_,_,_=>rfl
 | [],y :: m,_,_,h=>absurd ((h y).2 (by simp)) (by simp)
 |x :: l, [],_,_,h=>absurd ((h x).1 (by simp)) (by simp)
 |x :: l,y :: m,hl,hm,h=>by
  obtain ⟨l1,l2⟩:=List.pairwise_cons.1 hl
  obtain ⟨m1,m2⟩:=List.pairwise_cons.1 hm
  have hxy:x=y:=by
   rcases List.mem_cons.1 ((h x).1 (by simp)) with h1 | h1
   ·exact h1
   ·rcases List.mem_cons.1 ((h y).2 (by simp)) with h2 | h2
    ·exact h2.symm
    ·have:=m1 x h1;have:=l1 y h2;omega
  subst hxy
  refine congrArg (x :: ·) (Xe l2 m2 fun z=>⟨fun hz=> ?_,fun hz=> ?_⟩)
  ·rcases List.mem_cons.1 ((h z).1 (by simp [hz])) with h1 | h1
   ·have:=l1 z hz;omega
   ·exact h1
  ·rcases List.mem_cons.1 ((h z).2 (by simp [hz])) with h1 | h1
   ·have:=m1 z hz;omega
   ·exact h1
theorem OU:∀(l:List AE) (o:List Int),o.Pairwise (· < ·)→(IP l o).Pairwise (· < ·)
 | [],_,h=>h
 |e :: l,o,h=>OU l _ (U1 o e.Id h)
theorem Od:∀(l:List AE) (o:List Int) (z:Int),z∈IP l o ↔ z∈o∨∃e∈l,e.Id=z
 | [],o,z=>by simp [IP]
 |e :: l,o,z=>by
  rw [IP,Od l _ z,Mg]
  constructor
  ·rintro ((h | h) | ⟨x,h1,h2⟩)
   ·exact .inr ⟨e,by simp,h.symm⟩
   ·exact .inl h
   ·exact .inr ⟨x,by simp [h1],h2⟩
  ·rintro (h | ⟨x,h1,h2⟩)
   ·exact .inl (.inr h)
   ·rcases List.mem_cons.1 h1 with rfl | h1
    ·exact .inl (.inl h2.symm)
    ·exact .inr ⟨x,h1,h2⟩
theorem mX {l:List AE}:GQ l=ET l:=Xe (OU l [] List.Pairwise.nil) dE (fun x=>by
 rw [eU,GQ,Od];simp)
theorem jM {O:List Int}{x:Int}{a:Nat}(h:a < O.length):Fi x (O.drop a)=if at' O a < x then at' O a :: Fi x (O.drop (a+1)) else if at' O a=x then O.drop a else x :: O.drop a:=by
 rw [cV h,Fi]
theorem Oo:∀(l:List AE) (o:List Int),(IP l o).length≤l.length+o.length
 | [],_=>by simp [IP]
 |e :: l,o=>by
  have h1:=Oo l (Fi e.Id o)
  have h2:∀(o:List Int) (x:Int),(Fi x o).length≤o.length+1:=fun o x=>by
   induction o with
   |nil=>simp [Fi]
   |cons y o ih=>
    rw [Fi]
    split
    ·simpa using ih
    ·split <;> simp
  have h3:=h2 o e.Id
  rw [IP,List.length_cons];omega
theorem Yh {l:List AE}{k:Nat}:(GQ (l.take k)).length≤l.length:=by
 have:=Oo (l.take k) []
 rw [List.length_take,List.length_nil] at this
 unfold GQ;omega
def Lq:BG:= .det (fun args hp _=>match args with | [v]=>HJ AA hp v∧(AA.rd hp v).length≤16000000 | _=>False) (fun args hp top=>match args with | [v]=>(AR top (GQ (AA.rd hp v)), [(top,AV AF (GQ (AA.rd hp v)))],top+1) | _=>(undef, [],top))
def bo (hp:Hp)(top:Nat)(v:Value)(O:List Int)(k:Nat):SS:=⟨[(0,v,true),(3,AR top O,true),(4, .int .i64 (k:Int),true)],hp.Al [(top,AV AF O)],top+1⟩
def eA (hp:Hp)(top:Nat)(v:Value)(O:List Int)(k a:Nat):SS:=⟨[(0,v,true),(3,AR top O,true),(4, .int .i64 (k:Int),true),(5, .int .i64 (a:Int),true)],hp.Al [(top,AV AF O)],top+1⟩
theorem jw:Aw Tryz.prog 25 Lq:=by
 refine .Cg QE ?_
 intro args hp top hpre hcl hsc
 match args,hpre with
 | [v],⟨⟨l,h⟩,hb⟩=>
 have hs:=h.low hcl
 simp only [h.rd] at hb ⊢
 refine AK.Ar A7 QE rfl 66 rfl [.tmp 2] rfl (show 1≤66 by decide) ?_
 refine CW.vc Da [0,2,3,4,5,6,10,28,46] (by kernel_rfl) ?_
 (repeat ((try refine Vc.mk' ?_);simp (maxSteps:=6000000) only [go_sem]))
 refine CW.Bs (fun k=>bo hp top v (GQ (l.take k)) k) (fun k=>k≤l.length) (fun k=>l.length - k) 0 (Nat.zero_le _) ?_ ?_
 ·exact (by refine Ao.mk' [top] hcl (by simp) (by simp) rfl (AG ?_) ?_ ?_ <;> simp [Ac,BU,Ax,AB.nil,AB.cons,Ap,AJ.refl,Sc.Ax (fun j hj=>AM hj) hs,show GQ [] = [] from rfl,EC,Et])
 ·intro k hi
  by_cases hlt:k < l.length
  ·have kk:AP .i64 ((k:Int)+1)=((k+1:Nat):Int):=CL hlt (by omega)
   have hlO:=Yh (l:=l) (k:=k)
   have es:=WS hlt
   generalize hOO:GQ (l.take k)=O at hlO es
   obtain ⟨x,hx⟩:∃x,x=(at' l k).Id:=⟨_,rfl⟩
   rw [←hx] at es
   have hO:BM AF (hp.set top (AV AF O)) (AR top O) O:=BM.own (by simp [Hp.set]) (by omega)
   refine CW.vc Da [0,2,3,4,5,6,10,28,46] (by kernel_rfl) ?_
   (repeat ((try refine Vc.mk' ?_);simp (maxSteps:=6000000) only [go_sem,BI h,bo,hlt,decide_true]))
   refine CW.Bs (eA hp top v O k) (fun a=>a≤O.length∧O.take a ++ Fi x (O.drop a)=Fi x O) (fun a=>O.length - a) 0 ⟨Nat.zero_le _,rfl⟩ ((by refine Ao.mk' [top] hcl (by simp) (by simp) rfl (AG ?_) ?_ ?_ <;> simp [Ac,BU,Ax,AB.nil,AB.cons,Az,Ap,BJ,AD,AJ.set,AJ.refl,Sc.Ax (fun j hj=>AM hj) hs])) ?_
   rintro a ⟨ha,hra⟩
   have hfin:∀ {s':SS},(∃ρ,Ao ρ top (bo hp top v (Fi x O) (k+1)) s')→Round top (fun k=>bo hp top v (GQ (l.take k)) k) (fun k=>k≤l.length) (fun k=>l.length - k) k s':=fun hs=> .mk (k+1) hlt (by omega) (by rw [es];exact hs)
   by_cases hal:a < O.length
   ·have c1:((a:Int) < (O.length:Int))=True:=eq_true (by omega)
    have ka:AP .i64 ((a:Int)+1)=((a+1:Nat):Int):=CL hal (by omega)
    rw [jM hal] at hra
    by_cases h1:at' O a < x
    ·have c2:(at' O a < x)=True:=eq_true h1
     rw [if_pos h1] at hra
     refine CW.vc Da [0,2,3,4,5,6,10,28,46] (by kernel_rfl) ?_
     (repeat ((try refine Vc.mk' ?_);simp (maxSteps:=6000000) only [go_sem,BW h,Dw h,Du h,Cf hs,Br hO,C0 hO,EZ hO,eA,c1,hal,hlt,hx.symm,c2,decide_true,ka]))
     refine .mk (a+1) ⟨hal, ?_⟩ (by omega) ((by refine Ao.mk' [top] hcl (by simp) (by simp) rfl (AG ?_) ?_ ?_ <;> simp [Ac,BU,Ax,AB.nil,AB.cons,Az,Ap,BJ,AD,AJ.set,AJ.refl,Sc.Ax (fun j hj=>AM hj) hs]))
     rw [E9 hal,List.append_assoc];exact hra
    ·have c2:(at' O a < x)=False:=eq_false h1
     rw [if_neg h1] at hra
     by_cases h2:at' O a=x
     ·have c3:(at' O a=x)=True:=eq_true h2
      rw [if_pos h2,List.take_append_drop] at hra
      refine CW.vc Da [0,2,3,4,5,6,10,28,46] (by kernel_rfl) ?_
      (repeat ((try refine Vc.mk' ?_);simp (maxSteps:=6000000) only [go_sem,reduceCtorEq,Nat.reduceEqDiff,BW h,Dw h,Du h,Cf hs,Br hO,C0 hO,EZ hO,eA,c1,hal,hlt,hx.symm,c2,c3,decide_true,decide_false,kk]))
      rw [←hra] at hfin
      exact hfin ((by refine Ao.mk' [top] hcl (by simp) (by simp) rfl (AG ?_) ?_ ?_ <;> simp [Ac,BU,Ax,AB.nil,AB.cons,Az,Ap,BJ,AD,AJ.set,AJ.refl,Sc.Ax (fun j hj=>AM hj) hs]))
     ·have c3:(at' O a=x)=False:=eq_false h2
      rw [if_neg h2] at hra
      have n0:(0:Int)≤(a:Int):=by omega
      have n1:(a:Int)≤(O.length:Int):=by omega
      have hT:=fun {h':Hp} (e:h' top=AV AF O)=>BM.own (E:=AF) (hp:=h') (b:=top) (l:=O) e (by omega)
      have sl2:∀ {h':Hp},h' top=AV AF O→Be tt.get h' 51 (AR top O) (some (.int .i64 (a:Int))) none=(Gv 1 (AR top O) a,True):=fun e=>JT (hT e) (k:= .i64) n0 n1
      have ap1:∀ {h':Hp} {t:Nat},h' top=AV AF O→Ab tt.get h' t [51,51] (.slice none 0 0) (Hd 1 (AR top O) 0 a)=some (AR t (O.take a), [(t,AV AF (O.take a))],t+1):=fun {h'} {t} e=>by
       have hq:BM AF h' (Hd 1 (AR top O) 0 a) (O.take a):=(hT e).take (n:=a) ha
       have:=LH (top:=t) (x:=Hd 1 (AR top O) 0 a) ⟨_,hq⟩ (by rw [hq.rd,List.length_take];omega)
       rwa [hq.rd] at this
      have ap2:∀ {h':Hp} {j q t:Nat},h' j=AV AF (O.take a)→h' q=some (.cells true 1 [.int .u32 x])→Ab tt.get h' t [51,51] (AR j (O.take a)) (.slice (some ⟨q,0,none⟩) 1 1)=some (AR t (O.take a ++ [x]),CP j (O.take a) t (AV AF (O.take a ++ [x])),t+1):=fun {h'} {j} {q} {t} a1 a2=>by
       have e3:cellsOf (h' q)= [.int .u32 x]:=by rw [a2];rfl
       have:=HF (hp:=h') (b:=j) (top:=t) (k:=q) a1 (by rw [e3];exact a2) (by rw [e3];rfl) (H5 (by rw [List.length_take];omega) (by decide))
       rw [e3] at this
       exact this
      have ap3:∀ {h':Hp} {j t:Nat},h' j=AV AF (O.take a ++ [x])→h' top=AV AF O→Ab tt.get h' t [51,51] (AR j (O.take a ++ [x])) (Gv 1 (AR top O) a)=some (AR t (O.take a ++ [x] ++ O.drop a),CP j (O.take a ++ [x]) t (AV AF (O.take a ++ [x] ++ O.drop a)),t+1):=fun {h'} {j} {t} a1 e=>by
       have hq:BM AF h' (Gv 1 (AR top O) a) (O.drop a):=(hT e).drop (n:=a) ha
       have:=M3 (top:=t) (b:=j) (x:=Gv 1 (AR top O) a) a1 ⟨_,hq⟩ (by rw [hq.rd,List.length_append,List.length_take,List.length_drop,List.length_singleton];omega)
       rwa [hq.rd] at this
      rw [show O.take a ++ x :: O.drop a=O.take a ++ [x] ++ O.drop a by simp] at hra
      rw [←hra] at hfin
      refine CW.vc Da [0,2,3,4,5,6,10,28,46] (by kernel_rfl) ?_
      (repeat ((try refine Vc.mk' ?_);simp (maxSteps:=6000000) only [go_sem,reduceCtorEq,Nat.reduceAdd,Nat.reduceMul,Nat.reduceLeDiff,Nat.reduceEqDiff,BW h,Dw h,Du h,Cf hs,Br hO,C0 hO,EZ hO,JS hO,eA,c1,hal,hlt,hx.symm,c2,c3,decide_true,decide_false,kk,n0,n1,Int.toNat_natCast,sl2,ap1,ap2,ap3]))
      exact hfin ((by refine Ao.mk' [top+4] hcl (by simp) (by simp) rfl (AG ?_) ?_ ?_ <;> simp [Ac,BU,Ax,AB.nil,AB.cons,Az,Ap,BJ,AD,AJ.set,AJ.refl,Sc.Ax (fun j hj=>AM hj) hs]))
   ·have c1:((a:Int) < (O.length:Int))=False:=eq_false (by omega)
    have haE:a=O.length:=by omega
    subst haE
    rw [List.take_length,List.drop_eq_nil_of_le (Nat.le_refl _),Fi] at hra
    have n0:(0:Int)≤(O.length:Int):=by omega
    have n1:(O.length:Int)≤(O.length:Int):=by omega
    have hT:=fun {h':Hp} (e:h' top=AV AF O)=>BM.own (E:=AF) (hp:=h') (b:=top) (l:=O) e (by omega)
    have sl2:∀ {h':Hp},h' top=AV AF O→Be tt.get h' 51 (AR top O) (some (.int .i64 (O.length:Int))) none=(Gv 1 (AR top O) O.length,True):=fun e=>JT (hT e) (k:= .i64) n0 n1
    have ap1:∀ {h':Hp} {t:Nat},h' top=AV AF O→Ab tt.get h' t [51,51] (.slice none 0 0) (Hd 1 (AR top O) 0 O.length)=some (AR t O, [(t,AV AF O)],t+1):=fun {h'} {t} e=>by
     have hq:BM AF h' (Hd 1 (AR top O) 0 O.length) (O.take O.length):=(hT e).take (n:=O.length) (Nat.le_refl _)
     rw [List.take_length] at hq
     have:=LH (top:=t) (x:=Hd 1 (AR top O) 0 O.length) ⟨_,hq⟩ (by rw [hq.rd];omega)
     rwa [hq.rd] at this
    have ap2:∀ {h':Hp} {j q t:Nat},h' j=AV AF O→h' q=some (.cells true 1 [.int .u32 x])→Ab tt.get h' t [51,51] (AR j O) (.slice (some ⟨q,0,none⟩) 1 1)=some (AR t (O ++ [x]),CP j O t (AV AF (O ++ [x])),t+1):=fun {h'} {j} {q} {t} a1 a2=>by
     have e3:cellsOf (h' q)= [.int .u32 x]:=by rw [a2];rfl
     have:=HF (hp:=h') (b:=j) (top:=t) (k:=q) a1 (by rw [e3];exact a2) (by rw [e3];rfl) (H5 (by omega) (by decide))
     rw [e3] at this
     exact this
    have ap3:∀ {h':Hp} {j t:Nat},h' j=AV AF (O ++ [x])→h' top=AV AF O→Ab tt.get h' t [51,51] (AR j (O ++ [x])) (Gv 1 (AR top O) O.length)=some (AR t (O ++ [x]),CP j (O ++ [x]) t (AV AF (O ++ [x])),t+1):=fun {h'} {j} {t} a1 e=>by
     have hq:BM AF h' (Gv 1 (AR top O) O.length) (O.drop O.length):=(hT e).drop (n:=O.length) (Nat.le_refl _)
     rw [List.drop_eq_nil_of_le (Nat.le_refl _)] at hq
     have:=M3 (top:=t) (b:=j) (x:=Gv 1 (AR top O) O.length) a1 ⟨_,hq⟩ (by rw [hq.rd,List.length_append,List.length_singleton,List.length_nil];omega)
     rw [hq.rd,List.append_nil] at this
     exact this
    rw [←hra] at hfin
    refine CW.vc Da [0,2,3,4,5,6,10,28,46] (by kernel_rfl) ?_
    (repeat ((try refine Vc.mk' ?_);simp (maxSteps:=6000000) only [go_sem,reduceCtorEq,Nat.reduceAdd,Nat.reduceMul,Nat.reduceLeDiff,Nat.reduceEqDiff,BW h,Dw h,Du h,Cf hs,Br hO,JS hO,eA,c1,hlt,hx.symm,decide_false,kk,n0,n1,Int.toNat_natCast,sl2,ap1,ap2,ap3]))
    exact hfin ((by refine Ao.mk' [top+4] hcl (by simp) (by simp) rfl (AG ?_) ?_ ?_ <;> simp [Ac,BU,Ax,AB.nil,AB.cons,Az,Ap,BJ,AD,AJ.set,AJ.refl,Sc.Ax (fun j hj=>AM hj) hs]))
  ·have hi2:k=l.length:=by omega
   subst hi2
   refine CW.vc Da [0,2,3,4,5,6,10,28,46] (by kernel_rfl) ?_
   (repeat ((try refine Vc.mk' ?_);simp (maxSteps:=6000000) only [go_sem,BI h,bo,List.take_length,Nat.lt_irrefl,decide_false]))
   (refine ⟨[top],by simp,by simp,by simp, ?_, ?_, ?_⟩ <;> simp [AB.nil,AB.cons,Az,Ap,BJ,AD,AJ.set,AJ.refl])
end Go.Proofs.YthpibnpeaidabaaGreatDoor.Dm
