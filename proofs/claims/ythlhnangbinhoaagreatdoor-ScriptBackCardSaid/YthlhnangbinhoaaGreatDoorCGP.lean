/- HX and links, and their graph, without the program. -/
import Derived.Test.YthlhnangbinhoaaGreatDoorCGA
set_option linter.unusedSimpArgs false
set_option linter.unusedVariables false
namespace Go.Proofs.YthlhnangbinhoaaGreatDoor.Gr
open Go.Dm Go.Proofs.YthlhnangbinhoaaGreatDoor.Dm
def Sv (n:Int)(a:Int):Bool:=decide (a=n)
def bA:List Int→List Int→Bool
 |_, []=>true
 |done,n :: l=>Ci n && !done.any (Sv n) && bA (done ++ [n]) l
def pr (a b:Int)(x:Ap):Bool:=(decide (x.A=a) && decide (x.B=b)) || (decide (x.A=b) && decide (x.B=a))
def GD (R:List Int)(x:Ap):Bool:= !decide (x.A=x.B) && R.any (Sv x.A) && R.any (Sv x.B) && RL x.Er
def iC (R:List Int):List Ap→List Ap→Int
 |_, []=>0
 |done,x :: l=>if GD R x=false then 2 else if done.any (pr x.A x.B) then 7 else iC R (done ++ [x]) l
def IC (R:List Int)(l:List Ap):Int:=if bA [] R=false then 2 else if 48 < l.length then 3 else iC R [] l
def Dk:List Ap→Int→Int→Int
 | [],_,_=>0
 |x :: l,a,b=>if pr a b x=true then x.Er else Dk l a b
def Wj (R:List Int):List Bool:=(List.range 25).map fun (i:Nat)=>R.any (Sv (i:Int))
def sL (l:List Ap):List Int:=(List.range 625).map fun i=>Dk l ((i / 25:Nat):Int) ((i % 25:Nat):Int)
theorem VR (R:List Int):(Wj R).length=25:=by simp [Wj]
theorem mn (l:List Ap):(sL l).length=625:=by simp [sL]
theorem OH (R:List Int){a:Nat}(ha:a < 25):((Wj R)[a]?).getD false=R.any (Sv (a:Int)):=by simp [Wj,ha]
theorem Ze (l:List Ap){a b:Nat}(ha:a < 25)(hb:b < 25):((sL l)[a * 25+b]?).getD 0=Dk l (a:Int) (b:Int):=by
 have h:a * 25+b < 625:=by omega
 have e1:(a * 25+b) / 25=a:=by omega
 have e2:(a * 25+b) % 25=b:=by omega
 unfold sL
 rw [List.getElem?_map,List.getElem?_range h]
 simp only [Option.map_some,Option.getD_some,e1,e2]
theorem gQ {done:List Int}{n:Int}(h:Ci n=true):(Wj done).set n.toNat true=Wj (done ++ [n]):=by
 simp only [Ci,Bool.and_eq_true,decide_eq_true_eq] at h
 unfold Wj
 apply S5
 ·rw [List.any_append]
  have:Sv ((n.toNat:Nat):Int) n=true:=by simp only [Sv,decide_eq_true_eq];omega
  simp only [List.any_cons,this,Bool.true_or,Bool.or_true]
 ·intro j _ hne
  rw [List.any_append]
  have:Sv (j:Int) n=false:=by simp only [Sv,decide_eq_false_iff_not];omega
  simp [this]
theorem aW (a b:Int)(x:Ap):pr a b x=pr b a x:=by unfold pr;rw [Bool.or_comm]
theorem Q6:∀(l:List Ap) (a b:Int),Dk l a b=Dk l b a
 | [],_,_=>rfl
 |x :: l,a,b=>by rw [Dk,Dk,aW a b,Q6 l a b]
theorem S9:∀(l:List Ap) (x:Ap) (a b:Int),l.any (pr a b)=false→Dk (l ++ [x]) a b=if pr a b x=true then x.Er else 0
 | [],_,_,_,_=>rfl
 |y :: l,x,a,b,h=>by
  simp only [List.any_cons,Bool.or_eq_false_iff] at h
  rw [List.cons_append,Dk,if_neg (by simp [h.1])]
  exact S9 l x a b h.2
theorem SK:∀(l:List Ap) (x:Ap) (a b:Int),pr a b x=false→Dk (l ++ [x]) a b=Dk l a b
 | [],x,a,b,h=>by simp [Dk,h]
 |y :: l,x,a,b,h=>by rw [List.cons_append,Dk,Dk,SK l x a b h]
theorem bF {a b:Int}{x:Ap}(h:pr a b x=true)(y:Ap):pr x.A x.B y=pr a b y:=by
 simp only [pr,Bool.or_eq_true,Bool.and_eq_true,decide_eq_true_eq] at h
 rcases h with ⟨rfl,rfl⟩ | ⟨rfl,rfl⟩
 ·rfl
 ·exact aW _ _ _
theorem Zx {l:List Ap}{x:Ap}(h:l.any (pr x.A x.B)=false)(a b:Int):Dk (l ++ [x]) a b=if pr a b x=true then x.Er else Dk l a b:=by
 cases hp:pr a b x with
 |false=>rw [SK l x a b hp];rfl
 |true=>
  have:l.any (pr a b)=false:=by
   rw [←h];congr 1;funext y;exact (bF hp y).symm
  rw [S9 l x a b this,hp]
  simp
theorem oB {done:List Ap}{x:Ap}(ha:Ci x.A=true)(hb:Ci x.B=true)(h:done.any (pr x.A x.B)=false) :
  ((sL done).set (x.A.toNat * 25+x.B.toNat) x.Er).set (x.B.toNat * 25+x.A.toNat) x.Er=sL (done ++ [x]):=by
 simp only [Ci,Bool.and_eq_true,decide_eq_true_eq] at ha hb
 have key:∀j,j < 625→Dk (done ++ [x]) ((j / 25:Nat):Int) ((j % 25:Nat):Int)=if j=x.A.toNat * 25+x.B.toNat∨j=x.B.toNat * 25+x.A.toNat then x.Er else Dk done ((j / 25:Nat):Int) ((j % 25:Nat):Int):=by
  intro j hj
  rw [Zx h]
  have:pr ((j / 25:Nat):Int) ((j % 25:Nat):Int) x=true ↔ (j=x.A.toNat * 25+x.B.toNat∨j=x.B.toNat * 25+x.A.toNat):=by
   simp only [pr,Bool.or_eq_true,Bool.and_eq_true,decide_eq_true_eq]
   omega
  by_cases hc:j=x.A.toNat * 25+x.B.toNat∨j=x.B.toNat * 25+x.A.toNat
  ·rw [if_pos hc,if_pos (this.2 hc)]
  ·rw [if_neg hc,if_neg (fun e=>hc (this.1 e))]
 unfold sL
 apply List.ext_getElem?
 intro j
 rw [List.getElem?_set,List.getElem?_set]
 by_cases hj:j < 625
 ·have hk:=key j hj
  simp only [List.length_set,List.length_map,List.length_range,List.getElem?_map,List.getElem?_range hj,Option.map_some,hk]
  by_cases h1:x.B.toNat * 25+x.A.toNat=j
  ·rw [if_pos h1,if_pos (by omega),if_pos (.inr h1.symm)]
  ·rw [if_neg h1]
   by_cases h2:x.A.toNat * 25+x.B.toNat=j
   ·rw [if_pos h2,if_pos (by omega),if_pos (.inl h2.symm)]
   ·rw [if_neg h2,if_neg (by omega)]
 ·rw [if_neg (by omega),if_neg (by omega)]
  simp [hj]
theorem Yp:∀(l done:List Int),bA done l=true→∀n∈l,Ci n=true
 | [],_,_,_,h=>by cases h
 |m :: l,done,h,n,hn=>by
  simp only [bA,Bool.and_eq_true] at h
  rcases List.mem_cons.1 hn with rfl | hn
  ·exact h.1.1
  ·exact Yp l _ h.2 n hn
theorem Zw {R:List Int}(h:∀n∈R,Ci n=true){n:Int}(hn:R.any (Sv n)=true):Ci n=true:=by
 obtain ⟨m,hm,e⟩:=List.any_eq_true.1 hn
 simp only [Sv,decide_eq_true_eq] at e
 subst e;exact h m hm
structure bg (R:List Int) (l:List Ap):Prop where
 ok:∀x∈l,GD R x=true
 ne:l.Pairwise fun x y=>pr y.A y.B x=false
theorem Yf {R:List Int}:∀(l done:List Ap),iC R done l=0→(∀x∈l,GD R x=true∧done.any (pr x.A x.B)=false)∧l.Pairwise fun x y=>pr y.A y.B x=false
 | [],_,_=>⟨by simp, .nil⟩
 |x :: l,done,h=>by
  unfold iC at h
  split at h
  ·cases h
  ·rename_i h1
   split at h
   ·cases h
   ·rename_i h2
    obtain ⟨a,b⟩:=Yf l _ h
    refine ⟨?_,List.pairwise_cons.2 ⟨?_,b⟩⟩
    ·intro y hy
     rcases List.mem_cons.1 hy with rfl | hy
     ·exact ⟨by simpa using h1,by simpa using h2⟩
     ·obtain ⟨c,d⟩:=a y hy
      rw [List.any_append,Bool.or_eq_false_iff] at d
      exact ⟨c,d.1⟩
    ·intro y hy
     obtain ⟨_,d⟩:=a y hy
     rw [List.any_append,Bool.or_eq_false_iff] at d
     simpa using d.2
def xR (l:List Ap)(a b:Int):List Ds:=(l.filter (pr a b)).map fun x=>⟨a,b,x.Er⟩
theorem filter_one {a b:Int}:∀ {l:List Ap},l.Pairwise (fun x y=>pr y.A y.B x=false)→xR l a b=if l.any (pr a b)=true then [⟨a,b,Dk l a b⟩] else []
 | [],_=>rfl
 |x :: l,h=>by
  obtain ⟨h1,h2⟩:=List.pairwise_cons.1 h
  have ih:=filter_one (a:=a) (b:=b) h2
  unfold xR at ih ⊢
  cases hp:pr a b x with
  |false=>
   have e1:(x :: l).filter (pr a b)=l.filter (pr a b):=by rw [List.filter_cons,hp];rfl
   have e2:Dk (x :: l) a b=Dk l a b:=by rw [Dk,hp];rfl
   have e3:(x :: l).any (pr a b)=l.any (pr a b):=by rw [List.any_cons,hp,Bool.false_or]
   rw [e1,e2,e3,ih]
  |true=>
   have hn:l.any (pr a b)=false:=by
    rw [List.any_eq_false]
    intro y hy
    have:=h1 y hy
    intro hpy
    rw [←bF hpy x] at hp
    rw [hp] at this;cases this
   have e1:(x :: l).filter (pr a b)=x :: l.filter (pr a b):=by rw [List.filter_cons,hp];rfl
   have e2:Dk (x :: l) a b=x.Er:=by rw [Dk,hp];rfl
   have e3:(x :: l).any (pr a b)=true:=by rw [List.any_cons,hp,Bool.true_or]
   rw [e1,e2,e3,List.map_cons,ih,hn]
   rfl
theorem PM {R:List Int}{l:List Ap}(h:∀x∈l,GD R x=true)(a b:Int):0 < Dk l a b ↔ l.any (pr a b)=true:=by
 induction l with
 |nil=>simp [Dk]
 |cons x l ih=>
  have hx:=h x (List.mem_cons_self ..)
  have ih:=ih fun y hy=>h y (List.mem_cons_of_mem _ hy)
  rw [Dk,List.any_cons]
  cases hp:pr a b x with
  |false=>simpa [hp] using ih
  |true=>
   simp only [GD,RL,Bool.and_eq_true,decide_eq_true_eq] at hx
   simp;omega
def u2 (l:List Ap)(a m:Nat):List Ds:=(List.range m).flatMap fun (b:Nat)=>xR l (a:Int) (b:Int)
def RG (R:List Int)(l:List Ap)(n:Nat):List Ds:=(List.range n).flatMap fun (a:Nat)=>if R.any (Sv (a:Int)) then u2 l a 25 else []
def Rk (R:List Int)(n:Nat):List Int:=((List.range n).filter fun (i:Nat)=>R.any (Sv (i:Int))).map fun (i:Nat)=>(i:Int)
theorem nI (R:List Int):Fo (Wj R) 25=Rk R 25:=by
 unfold Fo Rk
 rw [Mt fun i hi=>show iS (Wj R) i=R.any (Sv (i:Int)) from OH R (List.mem_range.1 hi)]
theorem lD {R:List Int}{l:List Ap}(h:bg R l):Gv (sL l) (Wj R) 25=RG R l 25:=by
 unfold Gv RG
 refine Ie fun a ha=> ?_
 have ha':=List.mem_range.1 ha
 have e1:iS (Wj R) a=R.any (Sv (a:Int)):=OH R ha'
 rw [e1]
 have:Pa (sL l) a 25=u2 l a 25:=by
  unfold Pa u2
  refine Ie fun b hb=> ?_
  have hb':=List.mem_range.1 hb
  have c1:cS (sL l) a b=Dk l (a:Int) (b:Int):=Ze l ha' hb'
  have c2:cS (sL l) b a=Dk l (b:Int) (a:Int):=Ze l hb' ha'
  unfold OK
  rw [c1,c2,Q6 l (b:Int) (a:Int),filter_one h.ne]
  by_cases hc:l.any (pr (a:Int) (b:Int))=true
  ·have:=(PM h.ok (a:Int) (b:Int)).2 hc
   rw [if_pos hc,if_pos ⟨this,this⟩]
  ·rw [if_neg hc,if_neg (fun e=>hc ((PM h.ok _ _).1 e.1))]
 rw [this]
def nO (R:List Int)(l:List Ap):List Int:=if IC R l=0 then Rk R 25 else []
def eO (R:List Int)(l:List Ap):List Ds:=if IC R l=0 then RG R l 25 else []
theorem gB {R:List Int}{l:List Ap}(h:IC R l=0):bA [] R=true∧l.length≤48∧iC R [] l=0:=by
 unfold IC at h
 split at h
 ·cases h
 ·rename_i h1
  split at h
  ·cases h
  ·exact ⟨by simpa using h1,by omega,h⟩
theorem eR {R:List Int}{l:List Ap}(h:iC R [] l=0):bg R l:=⟨fun x hx=>((Yf l [] h).1 x hx).1,(Yf l [] h).2⟩
end Go.Proofs.YthlhnangbinhoaaGreatDoor.Gr
