/- uJ of the proof (part 12): what the rows' text needs of the texts that lead to it. -/
import Derived.Test.YtfdcckcadfhpeaaGreatDoorMMk
set_option linter.unusedVariables false
set_option linter.unusedSimpArgs false
set_option linter.unusedSectionVars false
set_option maxHeartbeats 4000000
noncomputable section
set_option maxRecDepth 100000
namespace Go.Sl.Ev
open Go Go.Sl
def wz (a b:J0 Nat):Bool:=match a with
 | none=>(match b with | none=>true | some _=>false)
 | some x=>(match b with | none=>false | some y=>Nat.beq x y)
theorem gh {a b:J0 Nat} (h:wz a b=true):a=b:=by
 cases a <;> cases b <;> first | rfl | (cases h;done) | (exact congrArg some (aJ h))
def WB (a:CV):CV→Bool:=CV.rec (motive:=fun _=>CV→Bool)
 (fun k n b=>match b with | .int k' n'=>XB k k' && On n n' | _=>false)
 (fun x b=>match b with | .bool y=>gf x y | _=>false)
 (fun _ ih b=>match b with | .str s=>ih s | _=>false)
 (fun t o b=>match b with | .ptr t' o'=>Nat.beq t t' && Nat.beq o o' | _=>false)
 (fun b=>match b with | .nilp=>true | _=>false)
 (fun t o n sz c b=>match b with | .sl t' o' n' sz' c'=>Nat.beq t t' && (Nat.beq o o' && (Nat.beq n n' && (Nat.beq sz sz' && wz c c'))) | _=>false)
 (fun b=>match b with | .nils=>true | _=>false)
 (fun b=>match b with | .sle=>true | _=>false)
 (fun t b=>match b with | .mp t'=>Nat.beq t t' | _=>false)
 (fun b=>match b with | .nilm=>true | _=>false)
 (fun f _ _ i1 i2 b=>match b with | .fn f' x y=>Nat.beq f f' && (i1 x && i2 y) | _=>false)
 (fun b=>match b with | .nilf=>true | _=>false)
 (fun t b=>match b with | .yl t'=>Nat.beq t t' | _=>false)
 (fun _ ih b=>match b with | .agg l=>ih l | _=>false)
 (fun _ ih b=>match b with | .tup l=>ih l | _=>false)
 (fun b=>match b with | .nil=>true | _=>false)
 (fun _ _ i1 i2 b=>match b with | .cons x y=>i1 x && i2 y | _=>false) a
theorem Jk {a b:Nat} (h:Nat.beq a b=true):a=b:=aJ h
theorem WC {a b:Bool} (h:gf a b=true):a=b:=by cases a <;> cases b <;> first | rfl | cases h
theorem IT:∀ {a b:CV},WB a b=true→a=b:=by
 intro a;induction a with
 | int k n =>
   intro b h;cases b <;> first | (cases h;done) | skip
   rename_i k' n';have h':(XB k k' && On n n')=true:=h;rw [aF] at h';rw [Lz h'.1,gX ((yY n n').symm.trans h'.2)]
 | bool x=>intro b h;cases b <;> first | (cases h;done) | (exact congrArg _ (WC h))
 | str s ih=>intro b h;cases b <;> first | (cases h;done) | (exact congrArg _ (ih h))
 | ptr t o =>
   intro b h;cases b <;> first | (cases h;done) | skip
   rename_i t' o';have h':(Nat.beq t t' && Nat.beq o o')=true:=h;rw [aF] at h';rw [Jk h'.1,Jk h'.2]
 | nilp=>intro b h;cases b <;> first | rfl | cases h
 | sl t o n sz c =>
   intro b h;cases b <;> first | (cases h;done) | skip
   rename_i t' o' n' sz' c';have h':(Nat.beq t t' && (Nat.beq o o' && (Nat.beq n n' && (Nat.beq sz sz' && wz c c'))))=true:=h;simp only [aF] at h';rw [Jk h'.1,Jk h'.2.1,Jk h'.2.2.1,Jk h'.2.2.2.1,gh h'.2.2.2.2]
 | nils=>intro b h;cases b <;> first | rfl | cases h
 | sle=>intro b h;cases b <;> first | rfl | cases h
 | mp t=>intro b h;cases b <;> first | (cases h;done) | (exact congrArg _ (Jk h))
 | nilm=>intro b h;cases b <;> first | rfl | cases h
 | fn f x y i1 i2 =>
   intro b h;cases b <;> first | (cases h;done) | skip
   rename_i f' x' y';have h':(Nat.beq f f' && (WB x x' && WB y y'))=true:=h;simp only [aF] at h';rw [Jk h'.1,i1 h'.2.1,i2 h'.2.2]
 | nilf=>intro b h;cases b <;> first | rfl | cases h
 | yl t=>intro b h;cases b <;> first | (cases h;done) | (exact congrArg _ (Jk h))
 | agg l ih=>intro b h;cases b <;> first | (cases h;done) | (exact congrArg _ (ih h))
 | tup l ih=>intro b h;cases b <;> first | (cases h;done) | (exact congrArg _ (ih h))
 | nil=>intro b h;cases b <;> first | rfl | cases h
 | cons x y i1 i2 =>
   intro b h;cases b <;> first | (cases h;done) | skip
   rename_i x' y';have h':(WB x x' && WB y y')=true:=h;rw [aF] at h';rw [i1 h'.1,i2 h'.2]
structure EB where
 t:Nat
 l:CV
 ty:Nat
 op:Bool
 ro:Bool
 st:Nat
def EB.cb (x:EB):CB:=bif x.ro then .ro (Vk x.l) x.ty x.st else .cells (Vk x.l) x.ty x.op x.st
def uQ (h:Tr CB) (l:List EB):Tr CB:=List.rec h (fun x _ ih=>ih.set (some x.cb) Fit x.t) l
def Ij (g:Bool) (h:Tr CB) (x:EB):Bool:=match h.get x.t with
 | some (.cells l ty op st)=>not x.ro && (Nat.beq l.n (uK x.l) && (WB (vC l 0 l.n) x.l && (Nat.beq ty x.ty && (gf op x.op && (not g || Nat.beq st x.st)))))
 | some (.ro l ty st)=>x.ro && (Nat.beq l.n (uK x.l) && (WB (vC l 0 l.n) x.l && (Nat.beq ty x.ty && (not g || Nat.beq st x.st))))
 | _=>false
theorem WD (x:EB):AS x.cb=x.st:=by
 unfold EB.cb;cases x.ro <;> rfl
theorem El {g:Bool} {h:Tr CB} {x:EB} (hx:Ij g h x=true):∃ b,h.get x.t=some b∧(g=true→AS b=x.st)∧∀ (nx:Nat) (ρ:Pl) (s:Nat) (o:Obj),DB nx ρ s b o→DB nx ρ s x.cb o:=by
 unfold Ij at hx;have key:∀ {l:Rw},Nat.beq l.n (uK x.l)=true→WB (vC l 0 l.n) x.l=true→∀ {nx:Nat} {ρ:Pl} {vs:List Value},RL nx ρ l vs→RL nx ρ (Vk x.l) vs:=fun {l} h1 h2 {nx ρ vs} hr=>by
  have e1:=IT h2;have e2:=Jk h1;have hl:uK (vC l 0 l.n)=l.n:=by rw [e1,←e2]
  have hk:=Eh hr hl;rw [e1,hr.1] at hk;simp only [oI,bI] at hk;exact AV hk
 split at hx
 · rename_i l ty op st hb;simp only [aF,eW] at hx;obtain ⟨h1,h2,h3,h4,h5,h6⟩:=hx;refine ⟨_,hb,fun hg=>?_,fun nx ρ s o hd=>?_⟩
   · subst hg;show st=x.st;simpa using h6
   unfold EB.cb;rw [h1];obtain ⟨vs,junk,k1,k2,k3,k4⟩:=hd;refine ⟨vs,junk,key h2 h3 k1,by rw [←Jk h4];exact k2,k3,fun ho=>k4 (by rw [WC h5];exact ho)⟩
 · rename_i l ty st hb;simp only [aF] at hx;obtain ⟨h1,h2,h3,h4,h6⟩:=hx;refine ⟨_,hb,fun hg=>?_,fun nx ρ s o hd=>?_⟩
   · subst hg;show st=x.st;simpa using h6
   unfold EB.cb;rw [h1];obtain ⟨vs,fz,k1,k2⟩:=hd;exact ⟨vs,fz,key h2 h3 k1,by rw [←Jk h4];exact k2⟩
 cases hx
theorem xZ (h:Tr CB):∀ {l:List EB},(∀ x∈l,x.t<Fit)→∀ {t:Nat} {b:CB},(uQ h l).get t=some b→(∃ x∈l,x.t=t∧x.cb=b)∨((∀ x∈l,x.t≠t)∧h.get t=some b)
 | [],_,t,b,hg=>.inr ⟨fun x hx=>(by cases hx),hg⟩
 | x :: l,hl,t,b,hg=>by
   have hg':((uQ h l).set (some x.cb) Fit x.t).get t=some b:=hg;rw [fP _ _ _ _ _ (hl x (aQ ..))] at hg';by_cases e:t=x.t
   · rw [aE e] at hg';cases hg';exact .inl ⟨x,aQ ..,e.symm,U⟩
   rw [aC e] at hg';rcases xZ h (fun y hy=>hl y (aL _ hy)) hg' with ⟨y,h1,h2⟩ | ⟨h1,h2⟩
   · exact .inl ⟨y,aL _ h1,h2⟩
   refine .inr ⟨fun y hy=>?_,h2⟩;rcases dD.1 hy with rfl | hy
   · exact fun e2=>e e2.symm
   exact h1 y hy
theorem Hj (h:Tr CB):∀ {l:List EB},(∀ x∈l,x.t<Fit)→∀ {t:Nat},((∃ x∈l,x.t=t)∨(∃ b,h.get t=some b))→∃ b,(uQ h l).get t=some b
 | [],_,t,hg=>hg.elim (fun ⟨x,hx,_⟩=>by cases hx) id
 | x :: l,hl,t,hg=>by
   show ∃ b,((uQ h l).set (some x.cb) Fit x.t).get t=some b;rw [fP _ _ _ _ _ (hl x (aQ ..))];by_cases e:t=x.t
   · exact ⟨_,aE e⟩
   rw [aC e];refine Hj h (fun y hy=>hl y (aL _ hy)) (hg.imp ?_ id);rintro ⟨y,hy,h2⟩;rcases dD.1 hy with rfl | hy
   · exact absurd h2.symm e
   exact ⟨y,hy,h2⟩
structure E6 where
 f:Nat
 nx:Nat
 args:CV
 hs:List EB
 v:CV
 news:List EB
 nx':Nat
def LX (mm:List E6) (f:Nat) (args:CV) (h:Tr CB) (nx:Nat):J0 E6:=
 List.rec none (fun e _ ih=>bif Nat.beq e.f f && (Nat.beq e.nx nx && (WB e.args args && Ln (Ij false h) e.hs)) then some e else ih) mm
def oq (mm:List E6) (c:E5) (r:C6):C6:=match c with
 | .call f args h nx=>(match LX mm f args h nx with | some e=>.ret e.v (uQ h e.news) e.nx' | none=>r)
 | _=>r
def af (e:E6):Bool:=Nat.ble e.nx e.nx' && (Nat.ble e.nx' Fit && (Ln (fun x=>Nat.ble (Nat.succ x.t) e.nx && Nat.ble (Nat.succ x.st) e.nx) e.hs && Ln (fun x=>Nat.ble e.nx x.t && (Nat.ble (Nat.succ x.t) e.nx' && (Nat.ble e.nx x.st && Nat.ble (Nat.succ x.st) e.nx'))) e.news))
def xK (P:I6) (Φ:A2→Prop) (e:E6):Prop:=af e=true∧tG P Φ (.call e.f e.args (uQ .e e.hs) e.nx) (.ret e.v (uQ (uQ .e e.hs) e.news) e.nx')
def D6 (P:I6) (Φ:A2→Prop) (mm:List E6):Prop:=∀ e∈mm,xK P Φ e
def xa (P:I6) (Φ:A2→Prop) (ih:E5→C6):Prop:=∀ c,tG P Φ c (ih c)
section
variable {P:I6} {Φ:A2→Prop} {pr:zH}
theorem GF (hpr:Jj P Φ pr) {ih:E5→C6} (H:xa P Φ ih):xa P Φ (step P pr ih):=fun c=>by
 cases c with
 | code c n E h nx=>exact Yg H c n E h nx
 | loop c n E h nx=>exact step_loop H c n E h nx
 | ops all l n E h nx=>exact FU H all l n E h nx
 | one o n E h nx=>exact FT H o n E h nx
 | call f args h nx=>exact Yo hpr H f args h nx
 | round t args h nx=>exact Um H t args h nx
 | reg l plan pend n E h nx=>exact GD H l plan pend n E h nx
theorem WE (c:E5) (w:Nat) (a:List Oper):tG P Φ c (.bad w a):=by cases c <;> trivial
theorem LY {e:E6} (h:af e=true):e.nx≤e.nx'∧e.nx'≤Fit∧(∀ x∈e.hs,x.t<e.nx∧x.st<e.nx)∧∀ x∈e.news,e.nx≤x.t∧x.t<e.nx'∧e.nx≤x.st∧x.st<e.nx':=by
 unfold af at h;simp only [aF] at h;refine ⟨tQ h.1,tQ h.2.1,fun x hx=>?_,fun x hx=>?_⟩
 · have:=xC.1 h.2.2.1 x hx;rw [aF] at this;exact ⟨tQ this.1,tQ this.2⟩
 have:=xC.1 h.2.2.2 x hx;simp only [aF] at this;exact ⟨tQ this.1,tQ this.2.1,tQ this.2.2.1,tQ this.2.2.2⟩
theorem WF {mm:List E6} {f nx:Nat} {args:CV} {h:Tr CB} {e:E6} (hl:LX mm f args h nx=some e):e∈mm∧e.f=f∧e.nx=nx∧e.args=args∧∀ x∈e.hs,Ij false h x=true:=by
 induction mm with
 | nil=>cases hl
 | cons a mm ih =>
   have hl':(bif Nat.beq a.f f && (Nat.beq a.nx nx && (WB a.args args && Ln (Ij false h) a.hs)) then some a else LX mm f args h nx)=some e:=hl;rcases tA hl' with ⟨h1,h2⟩ | ⟨_,h2⟩
   · cases h2;simp only [aF] at h1;exact ⟨aQ ..,Jk h1.1,Jk h1.2.1,IT h1.2.2.1,fun x hx=>xC.1 h1.2.2.2 x hx⟩
   obtain ⟨k1,k2⟩:=ih h2;exact ⟨aL _ k1,k2⟩
theorem Mem.part {ρ:Pl} {w0:E7 Φ} {h:Tr CB} {nx:Nat} {w:I8} {hs:List EB} (hm:Mem ρ w0 h nx w) (hlt:∀ x∈hs,x.t<Fit) (hst:∀ x∈hs,x.st<nx) (hhas:∀ x∈hs,Ij false h x=true):Mem ρ w0 (uQ .e hs) nx w:=by
 have key:∀ {t b},(uQ .e hs).get t=some b→∃ x∈hs,x.t=t∧x.cb=b:=fun hb=>(xZ .e hlt hb).elim id fun h=>by cases h.2
 have old:∀ {t b},(uQ .e hs).get t=some b→∃ c,h.get t=some c:=fun hb=>by
  obtain ⟨x,hx,rfl,_⟩:=key hb;obtain ⟨c,h1,_⟩:=El (hhas x hx);exact ⟨c,h1⟩
 refine ⟨hm.upd,fun t b hb=>?_,fun t t' b b' h1 h2 he=>?_,hm.imm,hm.nod,fun c hc=>⟨(hm.kept c hc).1,(hm.kept c hc).2.1,fun t b hb=>?_⟩⟩
 · obtain ⟨x,hx,rfl,rfl⟩:=key hb;obtain ⟨c,h1,_,h3⟩:=El (hhas x hx);obtain ⟨q1,q2,q3,o,q4,q5⟩:=hm.own _ _ h1;exact ⟨q1,by rw [WD];exact hst x hx,q3,o,q4,h3 _ _ _ _ q5⟩
 · obtain ⟨c,k1⟩:=old h1;obtain ⟨c',k2⟩:=old h2;exact hm.one _ _ _ _ k1 k2 he
 obtain ⟨c',k1⟩:=old hb;exact (hm.kept c hc).2.2 _ _ k1
theorem ah {mm:List E6} (hmm:D6 P Φ mm) {c:E5} {r:C6} (hr:tG P Φ c r):tG P Φ c (oq mm c r):=by
 cases c with
 | call f args h nx =>
   show tG P Φ _ (match LX mm f args h nx with | some e=>.ret e.v (uQ h e.news) e.nx' | none=>r);split
   · rename_i e he;obtain ⟨h1,rfl,rfl,rfl,h2⟩:=WF he;obtain ⟨hb,hf,hd⟩:=hmm e h1;obtain ⟨b1,b2,b3,b4⟩:=LY hb;refine ⟨hf,fun ρ w0 w vs hm hk hfit=>?_⟩;have hlt:∀ x∈e.hs,x.t<Fit:=fun x hx=>bZ (b3 x hx).1 (bP b1 b2);have hlt':∀ x∈e.news,x.t<Fit:=fun x hx=>bZ (b4 x hx).2.1 b2;have m0:=hm.part hlt (fun x hx=>(b3 x hx).2) h2;refine (hd ρ w0 w vs m0 hk hfit).mono fun ex w' ⟨u,ρ',e1,e2,e3,e4⟩=>⟨u,ρ',e1,?_,e3,?_⟩
     all_goals
      have g0:∀ {t b},(uQ .e e.hs).get t=some b→∃ c,h.get t=some c∧t<e.nx:=fun hb=>by
       obtain ⟨x,hx,rfl,_⟩:=(xZ .e hlt hb).elim id fun h=>by cases h.2
       obtain ⟨c,k1,_⟩:=El (h2 x hx);exact ⟨c,k1,(b3 x hx).1⟩
      have unl:∀ {t b},h.get t=some b→(∀ x∈e.hs,x.t≠t)→w'.heap[(ρ t).1]?=w.heap[(ρ t).1]?:=fun {t b} hb hn=>by
       refine e2.old.fr _ (hm.lt hb) (fun t' b' hb' he'=>?_) id;obtain ⟨x,hx,rfl,_⟩:=(xZ .e hlt hb').elim id fun h=>by cases h.2
       obtain ⟨c,k1,_⟩:=g0 hb';exact hn x hx (hm.one _ _ _ _ k1 hb he')
      have same:∀ {t b},h.get t=some b→w'.heap[(ρ t).1]?=w.heap[(ρ t).1]?:=fun {t b} hb=>by
       by_cases hin:∃ x∈e.hs,x.t=t
       · obtain ⟨b0,hb0⟩:=Hj (.e:Tr CB) hlt (.inl hin);obtain ⟨b1',hb1⟩:=Hj (uQ .e e.hs) hlt' (.inr ⟨b0,hb0⟩);have htn:t<e.nx:=(hm.own t b hb).1;rcases xZ (uQ .e e.hs) hlt' hb1 with ⟨y,hy,hyt,_⟩ | ⟨_,k2⟩
         · have:=(b4 y hy).1;omega
         obtain ⟨x,hx,hxt,hxc⟩:=(xZ .e hlt k2).elim id fun h=>by cases h.2
         exact (e2.old.old t b1' hb1 (by rw [←hxc,WD];exact (b3 x hx).2)).2
       exact unl hb fun x hx hxt=>hin ⟨x,hx,hxt⟩
      have cases2:∀ {t b},(uQ h e.news).get t=some b→(e.nx≤t∧(uQ (uQ .e e.hs) e.news).get t=some b∧e.nx≤AS b∧AS b<e.nx')∨(t<e.nx∧h.get t=some b):=fun {t b} hb=>by
       rcases xZ h hlt' hb with ⟨x,hx,hxt,hxc⟩ | ⟨_,k2⟩
       · refine .inl ⟨by rw [←hxt];exact (b4 x hx).1,?_,by rw [←hxc,WD];exact (b4 x hx).2.2⟩;have hn0:(uQ .e e.hs).get t=none:=by
          cases hg:(uQ (.e:Tr CB) e.hs).get t with
          | none=>rfl
          | some c=>obtain ⟨_,_,q⟩:=g0 hg;have:=(b4 x hx).1;omega
         -- the same list on another memory
         have gen:∀ (l:List EB),(∀ x∈l,x.t<Fit)→∀ {b},(uQ h l).get t=some b→(∃ x∈l,x.t=t)→(uQ (uQ .e e.hs) l).get t=some b:=fun l=>by
          induction l with
          | nil=>intro _ b _ hx;obtain ⟨x,hx,_⟩:=hx;cases hx
          | cons y l ih =>
            intro hl b hb hx;have hb':((uQ h l).set (some y.cb) Fit y.t).get t=some b:=hb;show ((uQ (uQ .e e.hs) l).set (some y.cb) Fit y.t).get t=some b;rw [fP _ _ _ _ _ (hl y (aQ ..))] at hb' ⊢;by_cases e:t=y.t
            · rw [aE e] at hb' ⊢;exact hb'
            rw [aC e] at hb' ⊢;obtain ⟨x,hx,hxt⟩:=hx;rcases dD.1 hx with rfl | hx
            · exact absurd hxt.symm e
            exact ih (fun z hz=>hl z (aL _ hz)) hb' ⟨x,hx,hxt⟩
         exact gen e.news hlt' hb ⟨x,hx,hxt⟩
       exact .inr ⟨(hm.own t b k2).1,k2⟩
     · refine ⟨e2.le,e2.fit,e2.ext,fun t b hb hs=>?_,fun p hp hun hx=>e2.old.fr p hp (fun t b hb he'=>?_) hx,fun t b hb=>?_,e2.old.sz⟩
       · rcases cases2 hb with ⟨_,_,k3,_⟩ | ⟨_,k2⟩
         · omega
         exact ⟨k2,same k2⟩
       · obtain ⟨c,k1,_⟩:=g0 hb;exact hun t c k1 he'
       rcases cases2 hb with ⟨_,k2,_⟩ | ⟨k1,k2⟩
       · rcases e2.old.nw t b k2 with k3 | ⟨t',b',k3,k4⟩
         · exact .inl k3
         obtain ⟨c,k5,_⟩:=g0 k3;exact .inr ⟨t',c,k5,k4⟩
       exact .inr ⟨t,b,k2,by rw [e2.ext t k1]⟩
     have place:∀ {t b},(uQ (uQ .e e.hs) e.news).get t=some b→e.nx≤t→∀ t' b',h.get t'=some b'→(ρ' t).1≠(ρ t').1:=fun {t b} hb htn t' b' hb' he'=>by
      rcases e2.old.nw t b hb with k3 | ⟨t2,b2,k3,k4⟩
      · have:=hm.lt hb';omega
      obtain ⟨c,k5,k6⟩:=g0 k3;obtain ⟨b3',k7⟩:=Hj (uQ .e e.hs) hlt' (.inr ⟨b2,k3⟩);have:=e4.one t t2 _ _ hb k7 (by rw [e2.ext t2 k6];exact k4.symm);omega
     refine ⟨e4.upd,fun t b hb=>?_,fun t t' b b' hb hb' he'=>?_,e4.imm,e4.nod,fun c hc=>⟨(e4.kept c hc).1,(e4.kept c hc).2.1,fun t b hb=>?_⟩⟩
     · rcases cases2 hb with ⟨_,k2,_⟩ | ⟨k1,k2⟩
       · exact e4.own t b k2
       obtain ⟨q1,q2,q3,o,q4,q5⟩:=hm.own t b k2;rw [e2.ext t k1];exact ⟨bZ q1 e2.le,bZ q2 e2.le,q3,o,(same k2).trans q4,q5.up e2.le e2.ext⟩
     · rcases cases2 hb with ⟨j1,k2,_⟩ | ⟨k1,k2⟩ <;> rcases cases2 hb' with ⟨j1',k2',_⟩ | ⟨k1',k2'⟩
       · exact e4.one t t' b b' k2 k2' he'
       · rw [e2.ext t' k1'] at he';exact absurd he' (place k2 j1 t' b' k2')
       · rw [e2.ext t k1] at he';exact absurd he'.symm (place k2' j1' t b k2)
       rw [e2.ext t k1,e2.ext t' k1'] at he';exact hm.one t t' b b' k2 k2' he'
     rcases cases2 hb with ⟨_,k2,_⟩ | ⟨k1,k2⟩
     · exact (e4.kept c hc).2.2 t b k2
     rw [e2.ext t k1];exact (hm.kept c hc).2.2 t b k2
   · exact hr
 | _=>exact hr
def gi (P:I6) (pr:zH) (mm:List E6) (F:Nat):E5→C6:=Nat.rec (motive:=fun _=>E5→C6) (fun _=>.bad 0 []) (fun _ r c=>oq mm c (step P pr r c)) F
theorem GG (hpr:Jj P Φ pr) {mm:List E6} (hmm:D6 P Φ mm) (F:Nat):xa P Φ (gi P pr mm F):=by
 induction F with
 | zero=>exact fun c=>WE c 0 []
 | succ F r=>exact fun c=>ah hmm (GF hpr r c)
def gj (P:I6) (pr:zH) (mm:List E6) (F:Nat) (c:E5):C6:=step P pr (gi P pr mm F) c
def ot (e:E6) (r:C6):Bool:=af e && (match r with
 | .ret v h nx=>WB v e.v && (Nat.beq nx e.nx' && (Ln (Ij true h) e.hs && Ln (Ij false h) e.news))
 | _=>false)
theorem uL (hpr:Jj P Φ pr) {mm:List E6} (hmm:D6 P Φ mm) (F:Nat) (e:E6) (h:ot e (gj P pr mm F (.call e.f e.args (uQ .e e.hs) e.nx))=true):xK P Φ e:=by
 have H:tG P Φ (.call e.f e.args (uQ .e e.hs) e.nx) (gj P pr mm F (.call e.f e.args (uQ .e e.hs) e.nx)):=GF hpr (GG hpr hmm F) _;unfold ot at h;rw [aF] at h;obtain ⟨hb,h⟩:=h;refine ⟨hb,?_⟩;obtain ⟨b1,b2,b3,b4⟩:=LY hb;revert H h;generalize gj P pr mm F (.call e.f e.args (uQ .e e.hs) e.nx)=r;intro H h;cases r with
 | bad=>cases h
 | ok=>cases h
 | ret v h' nx' =>
   simp only [aF] at h;obtain ⟨h1,h2,h3,h4⟩:=h;have e1:=IT h1;have e2:=Jk h2;subst e1 e2;refine ⟨H.1,fun ρ w0 w vs hm hk hfit=>(H.2 ρ w0 w vs hm hk hfit).mono fun ex w' ⟨u,ρ',k1,k2,k3,k4⟩=>⟨u,ρ',k1,?_,k3,?_⟩⟩;all_goals
    have hlt:∀ x∈e.hs,x.t<Fit:=fun x hx=>bZ (b3 x hx).1 (bP b1 b2);have hlt':∀ x∈e.news,x.t<Fit:=fun x hx=>bZ (b4 x hx).2.1 b2;have key:∀ {t b},(uQ (uQ .e e.hs) e.news).get t=some b→∃ x:EB,x.t=t∧x.cb=b∧((x∈e.news∧Ij false h' x=true)∨(x∈e.hs∧Ij true h' x=true∧(uQ .e e.hs).get t=some b)):=fun {t b} hb=>by
     rcases xZ (uQ .e e.hs) hlt' hb with ⟨x,hx,hxt,hxc⟩ | ⟨_,q⟩
     · exact ⟨x,hxt,hxc,.inl ⟨hx,xC.1 h4 x hx⟩⟩
     obtain ⟨x,hx,hxt,hxc⟩:=(xZ .e hlt q).elim id fun h=>by cases h.2
     exact ⟨x,hxt,hxc,.inr ⟨hx,xC.1 h3 x hx,q⟩⟩
    have has:∀ {t b},(uQ (uQ .e e.hs) e.news).get t=some b→∃ c,h'.get t=some c∧∀ (s:Nat) (o:Obj),DB e.nx' ρ' s c o→DB e.nx' ρ' s b o:=fun {t b} hb=>by
     obtain ⟨x,rfl,rfl,q⟩:=key hb;rcases q with ⟨_,q⟩ | ⟨_,q,_⟩
     · obtain ⟨c,q1,_,q2⟩:=El q;exact ⟨c,q1,q2 _ _⟩
     obtain ⟨c,q1,_,q2⟩:=El q;exact ⟨c,q1,q2 _ _⟩
   · refine ⟨k2.le,k2.fit,k2.ext,fun t b hb hs=>?_,k2.old.fr,fun t b hb=>?_,k2.old.sz⟩
     · obtain ⟨x,rfl,rfl,q⟩:=key hb;rw [WD] at hs;rcases q with ⟨q,_⟩ | ⟨q0,q,q3⟩
       · have:=(b4 x q).2.2.1;omega
       obtain ⟨c,q1,q2,_⟩:=El q;exact ⟨q3,(k2.old.old x.t c q1 (by rw [q2 rfl];exact hs)).2⟩
     obtain ⟨c,q1,_⟩:=has hb;exact k2.old.nw t c q1
   refine ⟨k4.upd,fun t b hb=>?_,fun t t' b b' hb hb' he'=>?_,k4.imm,k4.nod,fun c hc=>⟨(k4.kept c hc).1,(k4.kept c hc).2.1,fun t b hb=>?_⟩⟩
   · obtain ⟨c,q1,q2⟩:=has hb;obtain ⟨g1,g2,g3,o,g4,g5⟩:=k4.own t c q1;refine ⟨g1,?_,g3,o,g4,q2 _ _ g5⟩;obtain ⟨x,rfl,rfl,q⟩:=key hb;rw [WD];rcases q with ⟨q,_⟩ | ⟨q,_⟩
     · exact (b4 x q).2.2.2
     have:=(b3 x q).2;omega
   · obtain ⟨c,q1,_⟩:=has hb;obtain ⟨c',q1',_⟩:=has hb';exact k4.one t t' c c' q1 q1' he'
   obtain ⟨c',q1,_⟩:=has hb;exact (k4.kept c hc).2.2 t c' q1
theorem D6.nil:D6 P Φ []:=fun e h=>yA
abbrev fR:=@D6.nil
theorem D6.cons {e:E6} {mm:List E6} (h:xK P Φ e) (k:D6 P Φ mm):D6 P Φ (e :: mm):=fun x hx=>by
 rcases dD.1 hx with rfl | hx
 · exact h
 exact k x hx
abbrev fD:=@D6.cons
theorem IU {f:Nat} (pr:zH) (hpr:Jj P Φ pr) {mm:List E6} (hmm:D6 P Φ mm) (F:Nat) (h:isTrue (gi P pr mm F (.call f .nil .e 0))=true) (G:A2) (hG:Φ G):Does P f [] G [] (fun v G' Ho=>v=.bool true∧G'=G∧Ho=[]):=
 PL (GG hpr hmm F _) h G hG
end
end Go.Sl.Ev
namespace Go.Proofs.YtfdcckcadfhpeaaGreatDoor
open Go Go.Sl Go.Sl.Ev
section
set_option maxRecDepth 1000000
def cI (l:List Int):CV:=List.rec .nil (fun x _ r=>.cons (.int .i64 x) r) l
def cB (l:List Int):CV:=List.rec .nil (fun x _ r=>.cons (.int .u8 x) r) l
def xb (l:CV):J0 CV:=match l with
 | .cons (.int .u64 c) .nil=>bif On (wH c) 0 then none else some (.int .i64 (wH c))
 | _=>none
def tzP:zH:=[(188,xb)]
theorem yE:Jj Tryz.prog TabOk tzP:=by
 intro f g h;have h':(bif Nat.beq 188 f then some xb else none)=some g:=h;rcases tA h' with ⟨h1,h2⟩ | ⟨_,h2⟩
 · have:=aJ h1;subst this;cases h2;refine ⟨T.fn188,fun args v hv G hG nx ρ vs hk=>?_⟩;unfold xb at hv;split at hv
   · rename_i c;rcases tA hv with ⟨_,h2⟩ | ⟨h1,h2⟩
     · cases h2
     cases h2;rw [yY,fA] at h1;obtain ⟨u,r,rfl,k1,k2⟩:=nJ.1 hk.2;have e1:=iU.1 k1;have e2:=DL.nil.1 k2;subst e1 e2;exact ⟨_,Ah,jb G hG c h1⟩
   cases hv
 cases h2
end
end Go.Proofs.YtfdcckcadfhpeaaGreatDoor
namespace Go.Proofs.YtfdcckcadfhpeaaGreatDoor
open Go Go.Sl
theorem PM (G:A2) (a b:J0 Addr) (c d:Nat) (l:List R2) (hx:Arr G a l) (hy:Arr G b l) (hl:l.length≤1048576) :
 Does Tryz.prog 22 [.slice a l.length c,.slice b l.length d] G [] (fun v G' Ho=>v=.bool (decide (1=1))∧G'=G∧Ho=[]):=by
 refine D0 Tryz.func22 Tryz.ntmps22 fun w=>?_;refine bJ 27 [0] ?_;refine gZ (ι:=Nat) (fun i=>([(13,.int .i64 (i:Int)),(12,Go.Value.int Go.IntKind.i64 (↑(List.length l):Int)),(0,Go.Value.slice a (List.length l) c),(1,Go.Value.slice b (List.length l) d)],[])) (fun i=>i≤l.length) (fun i=>l.length - i) (0) (aP _) fun i=>fun (hk:i≤l.length)=>?_;refine bJ 6 [] ?_;refine cF (fun hc1=>?_) fun hc1=>?_;refine bJ 11 [] ?_;refine dL [] [] T.mixed [[0],[1]] ?_;refine kE (α:=R2) 2 T.sl22 ?_;refine oP 3 T.agg52 ?_;refine eO [[4],[5]] ?_;refine kE (α:=R2) 6 T.sl22 ?_;refine oP 7 T.agg52 ?_;refine fH 8 [] U (Pf [_,_] [_,_] T.ai52 U U U U) ?_;refine kO sX I3 yF ?_;refine cH ?_;refine cF (fun hc2=>?_) fun hc2=>?_;refine bE 11 [] ?_;refine cG ?_;rotate_left;refine bE 7 [] ?_;rotate_left;refine bE 11 [] ?_;refine cG ?_;rotate_left
 · exact absurd U hc2
 · refine cO (i+1) ?_ ?_
   · show i+1≤l.length;omega
   show l.length - (i+1)<l.length - i;omega
 exact ⟨U,U,U⟩
theorem ou (G:A2) (k1 k2:Int) (pa:J0 Addr) (pc:Nat) (pl:List R2) (x y z:PH) (xp yp zp:PV) (hp:Arr G pa pl) (hpl:pl.length≤1048576)
 (hx:E9 G xp x) (hy:E9 G yp y) (hz:E9 G zp z) (hx1:xp.code.length≤1048576) (hx2:xp.outs.length≤1048576) (hy1:yp.code.length≤1048576) (hy2:yp.outs.length≤1048576) (hz1:zp.code.length≤1048576) (hz2:zp.outs.length≤1048576) :
 Does Tryz.prog 12 [.agg #[.int .i64 k1,.int .i64 k2,.slice pa pl.length pc,.int .i64 x.ins,.int .i64 x.regs,.slice x.ac x.cn x.cc,.slice x.ao x.on x.oc,.int .i64 y.ins,.int .i64 y.regs,.slice y.ac y.cn y.cc,.slice y.ao y.on y.oc,.int .i64 z.ins,.int .i64 z.regs,.slice z.ac z.cn z.cc,.slice z.ao z.on z.oc]] G [] (fun v G' Ho=>∃ (s:J0 Addr) (d:Nat) (sj:List Value) (u w q:PH),v=.agg #[.int .i64 k1,.int .i64 k2,.slice s pl.length d,.int .i64 u.ins,.int .i64 u.regs,.slice u.ac u.cn u.cc,.slice u.ao u.on u.oc,.int .i64 w.ins,.int .i64 w.regs,.slice w.ac w.cn w.cc,.slice w.ao w.on w.oc,.int .i64 q.ins,.int .i64 q.regs,.slice q.ac q.cn q.cc,.slice q.ao q.on q.oc]∧A3 s d pl sj∧Ho=[(2,s.map (·.block),Row 52 pl sj)]):=by
 refine D0 Tryz.func12 Tryz.ntmps12 fun w=>?_;refine aK 2 [] ?_;refine eG 0 fun b1=>?_;refine aV 1 U T.zero28 fun b2=>?_;refine aS 6 [0] ?_;refine cU 2 U (c33 _ _ _ _ sV sU) fun v1 G1 Ho1 hle1 hp=>?_;obtain ⟨s1,d1,j1,rfl,hos1,rfl,rfl⟩:=hp;refine aS 10 [0] ?_;refine eH (α:=PtV) 3 [⟨_,_⟩,⟨_,_⟩,⟨_,_⟩] U T.sl86 T.el85 U U U U U fun b3=>?_;refine bG 5 [] ?_;refine Wc.lg (ι:=Nat×A2×PH×PH×PH) (fun (k,Gx,u,v,q)=>([(14,.int .i64 (k:Int)),(13,Go.Value.int Go.IntKind.i64 (↑(List.length [Go.Proofs.YtfdcckcadfhpeaaGreatDoor.PtV.mk b1 (0+3),Go.Proofs.YtfdcckcadfhpeaaGreatDoor.PtV.mk b1 (0+7),Go.Proofs.YtfdcckcadfhpeaaGreatDoor.PtV.mk b1 (0+11)]):Int)),(12,Go.Value.slice (Option.some (Go.Addr.mk b3 0 Option.none)) (List.length [Go.Proofs.YtfdcckcadfhpeaaGreatDoor.PtV.mk b1 (0+3),Go.Proofs.YtfdcckcadfhpeaaGreatDoor.PtV.mk b1 (0+7),Go.Proofs.YtfdcckcadfhpeaaGreatDoor.PtV.mk b1 (0+11)]) 3),(2,Go.Value.pointer (Option.some (Go.Addr.mk b2 0 Option.none))),(1,Go.Value.pointer (Option.some (Go.Addr.mk b1 0 Option.none)))],[(0,some b1,.cells #[.int .i64 k1,.int .i64 k2,.slice s1 pl.length d1,.int .i64 u.ins,.int .i64 u.regs,.slice u.ac u.cn u.cc,.slice u.ao u.on u.oc,.int .i64 v.ins,.int .i64 v.regs,.slice v.ac v.cn v.cc,.slice v.ao v.on v.oc,.int .i64 q.ins,.int .i64 q.regs,.slice q.ac q.cn q.cc,.slice q.ao q.on q.oc] 28),(2,s1.map (·.block),Row 52 pl j1),(3,some b3,Row 85 [(⟨b1,3⟩:PtV),⟨b1,7⟩,⟨b1,11⟩] []),(1,Option.some b2,Go.Obj.cells #[Go.Value.int Go.IntKind.i64 0,Go.Value.int Go.IntKind.i64 0,Go.Value.slice Option.none 0 0,Go.Value.int Go.IntKind.i64 0,Go.Value.int Go.IntKind.i64 0,Go.Value.slice Option.none 0 0,Go.Value.slice Option.none 0 0,Go.Value.int Go.IntKind.i64 0,Go.Value.int Go.IntKind.i64 0,Go.Value.slice Option.none 0 0,Go.Value.slice Option.none 0 0,Go.Value.int Go.IntKind.i64 0,Go.Value.int Go.IntKind.i64 0,Go.Value.slice Option.none 0 0,Go.Value.slice Option.none 0 0] 28)])) (fun (k,Gx,u,v,q)=>Gx) (fun (k,Gx,u,v,q)=>k≤3∧G1.le Gx∧E9 Gx xp u∧E9 Gx yp v∧E9 Gx zp q) (fun (k,Gx,u,v,q)=>3 - k) ((0,G1,x,y,z)) (⟨aP _,cX _,hx.up hle1,hy.up hle1,hz.up hle1⟩) fun ⟨k,Gx,u,v,q⟩=>fun hk=>?_;obtain ⟨hk3,hle2,hu,hv,hq⟩:=hk;refine bJ 6 [] ?_;refine cF (fun hc1=>?_) fun hc1=>?_;refine aK 6 [] ?_;refine aZ (oB T.sl86 U U sU) ?_;rotate_left;refine bE 12 [0,1] ?_;rotate_left
 · have hk4:k=0∨k=1∨k=2:=by
    have h:(k:Int)<3:=hc1;omega
   rcases hk4 with rfl | rfl | rfl
   · obtain ⟨ei,er,eac,ecn,ecc,eao,eon,eoc⟩:=u;obtain ⟨e1,e2,e3,e4,hec,heo⟩:=hu;dsimp only at e1 e2 e3 e4 hec heo;subst e1 e2 e3 e4;refine aZ (jP (v:=.pointer (some ⟨b1,3,none⟩)) 3 T.one85 U U U) ?_;refine bG 3 [] ?_;refine dL [1,3,2,0] [(0,17),(0,14)] T.mixed [[0],[1],[2],[3],[4],[5,0],[7],[8],[9],[10,0]] ?_;refine dB 6 ?_;refine cU 4 U (dx _ _ _ _ sV sU) fun v3 G3 Ho3 hle3 hp=>?_;obtain ⟨s3,d3,rfl,hs3,rfl⟩:=hp;replace hec:=hec.up hle3;replace heo:=heo.up hle3;refine cY 11 ?_;refine cU 4 U (dy _ _ _ _ sV sU) fun v4 G4 Ho4 hle4 hp=>?_;obtain ⟨s4,d4,rfl,hs4,rfl⟩:=hp;replace hs3:=hs3.up hle4;replace hec:=hec.up hle4;replace heo:=heo.up hle4;refine bW ?_;refine eO [[12],[13]] ?_;refine dB 14 ?_;refine aB 1 [0] ?_;refine bW ?_;refine eO [[15],[16]] ?_;refine dB 17 ?_;refine aB 1 [0] ?_;refine fB ?_;refine fI 6 [] ?_;have hl9:Gx.le G4:=bL hle3 hle4;refine dW 14 U (show _=Value.int .i64 ((1:Nat):Int) from U) ?_;refine cO ((1,G4,⟨xp.ins,xp.regs,s3,xp.code.length,d3,s4,xp.outs.length,d4⟩,v,q)) ?_ ?_
     · exact ⟨by omega,bL hle2 hl9,⟨U,U,U,U,hs3,hs4⟩,hv.up hl9,hq.up hl9⟩
     show 3 - 1<3 - 0;omega
   · obtain ⟨ei,er,eac,ecn,ecc,eao,eon,eoc⟩:=v;obtain ⟨e1,e2,e3,e4,hec,heo⟩:=hv;dsimp only at e1 e2 e3 e4 hec heo;subst e1 e2 e3 e4;refine aZ (jP (v:=.pointer (some ⟨b1,7,none⟩)) 3 T.one85 U U U) ?_;refine bG 3 [] ?_;refine dL [1,3,2,0] [(0,17),(0,14)] T.mixed [[0],[1],[2],[3],[4],[5,0],[7],[8],[9],[10,0]] ?_;refine dB 6 ?_;refine cU 4 U (dx _ _ _ _ sV sU) fun v3 G3 Ho3 hle3 hp=>?_;obtain ⟨s3,d3,rfl,hs3,rfl⟩:=hp;replace hec:=hec.up hle3;replace heo:=heo.up hle3;refine cY 11 ?_;refine cU 4 U (dy _ _ _ _ sV sU) fun v4 G4 Ho4 hle4 hp=>?_;obtain ⟨s4,d4,rfl,hs4,rfl⟩:=hp;replace hs3:=hs3.up hle4;replace hec:=hec.up hle4;replace heo:=heo.up hle4;refine bW ?_;refine eO [[12],[13]] ?_;refine dB 14 ?_;refine aB 1 [0] ?_;refine bW ?_;refine eO [[15],[16]] ?_;refine dB 17 ?_;refine aB 1 [0] ?_;refine fB ?_;refine fI 6 [] ?_;have hl9:Gx.le G4:=bL hle3 hle4;refine dW 14 U (show _=Value.int .i64 ((2:Nat):Int) from U) ?_;refine cO ((2,G4,u,⟨yp.ins,yp.regs,s3,yp.code.length,d3,s4,yp.outs.length,d4⟩,q)) ?_ ?_
     · exact ⟨by omega,bL hle2 hl9,hu.up hl9,⟨U,U,U,U,hs3,hs4⟩,hq.up hl9⟩
     show 3 - 2<3 - 1;omega
   obtain ⟨ei,er,eac,ecn,ecc,eao,eon,eoc⟩:=q;obtain ⟨e1,e2,e3,e4,hec,heo⟩:=hq;dsimp only at e1 e2 e3 e4 hec heo;subst e1 e2 e3 e4;refine aZ (jP (v:=.pointer (some ⟨b1,11,none⟩)) 3 T.one85 U U U) ?_;refine bG 3 [] ?_;refine dL [1,3,2,0] [(0,17),(0,14)] T.mixed [[0],[1],[2],[3],[4],[5,0],[7],[8],[9],[10,0]] ?_;refine dB 6 ?_;refine cU 4 U (dx _ _ _ _ sV sU) fun v3 G3 Ho3 hle3 hp=>?_;obtain ⟨s3,d3,rfl,hs3,rfl⟩:=hp;replace hec:=hec.up hle3;replace heo:=heo.up hle3;refine cY 11 ?_;refine cU 4 U (dy _ _ _ _ sV sU) fun v4 G4 Ho4 hle4 hp=>?_;obtain ⟨s4,d4,rfl,hs4,rfl⟩:=hp;replace hs3:=hs3.up hle4;replace hec:=hec.up hle4;replace heo:=heo.up hle4;refine bW ?_;refine eO [[12],[13]] ?_;refine dB 14 ?_;refine aB 1 [0] ?_;refine bW ?_;refine eO [[15],[16]] ?_;refine dB 17 ?_;refine aB 1 [0] ?_;refine fB ?_;refine fI 6 [] ?_;have hl9:Gx.le G4:=bL hle3 hle4;refine dW 14 U (show _=Value.int .i64 ((3:Nat):Int) from U) ?_;refine cO ((3,G4,u,v,⟨zp.ins,zp.regs,s3,zp.code.length,d3,s4,zp.outs.length,d4⟩)) ?_ ?_
   · exact ⟨by omega,bL hle2 hl9,hu.up hl9,hv.up hl9,⟨U,U,U,U,hs3,hs4⟩⟩
   show 3 - 3<3 - 2;omega
 refine cW (.inr U) (Ho:=[(2,s1.map (·.block),Row 52 pl j1)]) U (.agg 1 U U T.agg28) ⟨U,I3⟩ ?_;exact ⟨s1,d1,j1,u,v,q,U,hos1,U⟩
theorem ow (G:A2) (k1 k2:Int) (pl:List R2) (pa:J0 Addr) (pc:Nat) (x y z:PV) (xac xao yac yao zac zao:J0 Addr) (xcc xoc ycc yoc zcc zoc:Nat) (hpa:Arr G pa pl) (hk1:1≤k1∧k1≤8) (hk2:1≤k2∧k2≤8) (hpl:pl.length≤15) (hin:∀ i:Nat,i<pl.length→near (pl[i]?.getD default).a (pl[i]?.getD default).b)
 (hxc:Arr G xac x.code) (hxo:Arr G xao x.outs) (hRx:sW x=true) (hyc:Arr G yac y.code) (hyo:Arr G yao y.outs) (hRy:sW y=true) (hzc:Arr G zac z.code) (hzo:Arr G zao z.outs) (hRz:sW z=true) :
 Does Tryz.prog 36 [.agg #[.int .i64 k1,.int .i64 k2,.slice pa pl.length pc,.int .i64 x.ins,.int .i64 x.regs,.slice xac x.code.length xcc,.slice xao x.outs.length xoc,.int .i64 y.ins,.int .i64 y.regs,.slice yac y.code.length ycc,.slice yao y.outs.length yoc,.int .i64 z.ins,.int .i64 z.regs,.slice zac z.code.length zcc,.slice zao z.outs.length zoc]] G [] (fun v G' Ho=>v=.int .i64 0∧G'=G∧Ho=[]):=by
 obtain ⟨x1,x2,x3,x4,x5,x6,x7,x8⟩:=sZ hRx;obtain ⟨y1,y2,y3,y4,y5,y6,y7,y8⟩:=sZ hRy;obtain ⟨z1,z2,z3,z4,z5,z6,z7,z8⟩:=sZ hRz;refine D0 Tryz.func36 Tryz.ntmps36 fun w=>?_;refine aK 2 [] ?_;refine eG 0 fun b1=>?_;refine aS 10 [0] ?_;refine iW 12 ?_;refine aB 8 [0] ?_;refine iW 17 ?_;refine aB 8 [0] ?_;refine iW 22 ?_;refine aB 8 [0] ?_;refine iW 27 ?_;refine bG 24 [0,0,0] ?_;refine gZ (ι:=Nat) (fun i=>([(36,.int .i64 (i:Int)),(1,.pointer (some ⟨b1,0,none⟩)),(35,Go.Value.int Go.IntKind.i64 (↑(List.length pl):Int)),(34,Go.Value.slice pa (List.length pl) pc)],[(0,some b1,.cells #[.int .i64 k1,.int .i64 k2,.slice pa pl.length pc,.int .i64 x.ins,.int .i64 x.regs,.slice xac x.code.length xcc,.slice xao x.outs.length xoc,.int .i64 y.ins,.int .i64 y.regs,.slice yac y.code.length ycc,.slice yao y.outs.length yoc,.int .i64 z.ins,.int .i64 z.regs,.slice zac z.code.length zcc,.slice zao z.outs.length zoc] 28)])) (fun i=>i≤pl.length) (fun i=>pl.length - i) (0) (aP _) fun i=>fun (hk:i≤pl.length)=>?_;refine bJ 6 [] ?_;refine cF (fun hc1=>?_) fun hc1=>?_;refine aK 6 [] ?_;refine gG (α:=R2) T.sl22 ?_;refine mL T.agg52 ?_;refine aV 1 U T.zero52 fun b2=>?_;refine aS 6 [1,1] ?_;refine cZ U Nt ?_;refine aZ (eJ U) ?_;refine bG 2 [] ?_;refine cF (fun hc2=>?_) fun hc2=>?_;refine bE 11 [] ?_;refine cG ?_;rotate_left;refine bE 7 [] ?_;rotate_left;refine aK 8 [] ?_;refine cZ U (c73 _ _) ?_;refine bG 4 [] ?_;rotate_left
 · exfalso;exact absurd (hin i sU) sV
 · refine dW 36 U (show _=Value.int .i64 ((i+1:Nat):Int) from U) ?_;refine cO (i+1) ?_ ?_
   · show i+1≤pl.length;omega
   show pl.length - (i+1)<pl.length - i;omega
 refine gZ (ι:=Nat) (fun k=>([(45,.int .i64 (k:Int)),(44,.agg #[.pointer (some ⟨b1,3,none⟩),.pointer (some ⟨b1,7,none⟩),.pointer (some ⟨b1,11,none⟩)])],[(0,some b1,.cells #[.int .i64 k1,.int .i64 k2,.slice pa pl.length pc,.int .i64 x.ins,.int .i64 x.regs,.slice xac x.code.length xcc,.slice xao x.outs.length xoc,.int .i64 y.ins,.int .i64 y.regs,.slice yac y.code.length ycc,.slice yao y.outs.length yoc,.int .i64 z.ins,.int .i64 z.regs,.slice zac z.code.length zcc,.slice zao z.outs.length zoc] 28)])) (fun k=>k≤3) (fun k=>3 - k) (0) (aP _) fun k=>fun (hk:k≤3)=>?_;have hk4:k=0∨k=1∨k=2∨k=3:=sU;rcases hk4 with rfl | rfl | rfl | rfl
 · skip;refine aK 13 [1] ?_;refine aZ (Ev.Qy.indexV (n:=3) (E:=85) sX sX sX U U tI U) ?_;refine aS 7 [] ?_;refine aZ (iG 0 T.agg26 U U U U) ?_;refine cZ U (YC _ x _ _ _ _ sV sV sU sU hRx) ?_;refine aY 21 [0] ?_;refine dW 45 U (show _=Value.int .i64 ((1:Nat):Int) from U) ?_;refine cO (1) ?_ ?_
   · show 1≤3;omega
   show 3 - 1<3 - 0;omega
 · skip;refine aK 13 [1] ?_;refine aZ (Ev.Qy.indexV (n:=3) (E:=85) sX sX sX U U tI U) ?_;refine aS 7 [] ?_;refine aZ (iG 0 T.agg26 U U U U) ?_;refine cZ U (YC _ y _ _ _ _ sV sV sU sU hRy) ?_;refine aY 21 [0] ?_;refine dW 45 U (show _=Value.int .i64 ((2:Nat):Int) from U) ?_;refine cO (2) ?_ ?_
   · show 2≤3;omega
   show 3 - 2<3 - 1;omega
 · skip;refine aK 13 [1] ?_;refine aZ (Ev.Qy.indexV (n:=3) (E:=85) sX sX sX U U tI U) ?_;refine aS 7 [] ?_;refine aZ (iG 0 T.agg26 U U U U) ?_;refine cZ U (YC _ z _ _ _ _ sV sV sU sU hRz) ?_;refine aY 21 [0] ?_;refine dW 45 U (show _=Value.int .i64 ((3:Nat):Int) from U) ?_;refine cO (3) ?_ ?_
   · show 3≤3;omega
   show 3 - 3<3 - 2;omega
 refine bE 18 [0] ?_;refine cG ?_;exact ⟨U,U,U⟩
structure UH where
 k1:Int
 k2:Int
 pa:J0 Addr
 pn:Nat
 pc:Nat
 x:PH
 y:PH
 z:PH
instance:Inhabited UH:=⟨⟨0,0,none,0,0,default,default,default⟩⟩
instance:A0 UH:=⟨15,fun u=>[.int .i64 u.k1,.int .i64 u.k2,.slice u.pa u.pn u.pc,.int .i64 u.x.ins,.int .i64 u.x.regs,.slice u.x.ac u.x.cn u.x.cc,.slice u.x.ao u.x.on u.x.oc,.int .i64 u.y.ins,.int .i64 u.y.regs,.slice u.y.ac u.y.cn u.y.cc,.slice u.y.ao u.y.on u.y.oc,.int .i64 u.z.ins,.int .i64 u.z.regs,.slice u.z.ac u.z.cn u.z.cc,.slice u.z.ao u.z.on u.z.oc],fun _=>rfl,fun _=>rfl⟩
section
attribute [local irreducible] tT sW uO xG tK tU xF xQ
theorem c6N (hWorks:∀ G,TabOk G→Does Tryz.prog 10 [] G [] (fun v G' Ho=>v=.bool (decide (1=1))∧G'=G∧Ho=[])) (G:A2) (hT:TabOk G) (k1 k2:Int) (l:List R2) (a:J0 Addr) (c:Nat) (ha:Arr G a l) (hlc:l.length≤c) (hl:l.length≤1048576) (hW:¬tT k1 k2 l=0) :
 Does Tryz.prog 6 [.int .i64 k1,.int .i64 k2,.slice a l.length c] G [] (fun v G' Ho=>v=.bool true∧Ho=[]):=by
 refine D0 Tryz.func6 Tryz.ntmps6 fun w=>?_;refine aK 8 [] ?_;refine cZ U (hWorks _ hT) ?_;refine aZ (eJ U) ?_;refine bG 13 [0] ?_;refine cF (fun hc1=>?_) fun hc1=>?_;refine bE 7 [] ?_;rotate_left;refine aK 5 [] ?_;refine cU 0 U (dw _ _ _ _ sV sU) fun v1 G1 Ho1 hle1 hp=>?_;obtain ⟨is1,id1,rfl,his1,hid1,rfl⟩:=hp;replace ha:=ha.up hle1;refine aS 8 [] ?_;refine cU 0 U (vt _ _ _ _ _ _ sV sU sU hW) fun v2 G2 Ho2 hle2 hp=>?_;obtain ⟨rfl,rfl⟩:=hp;replace his1:=his1.up hle2;replace ha:=ha.up hle2;refine aB 3 [] ?_;refine aV 0 U T.zero28 fun b1=>?_;refine aS 9 [0] ?_;refine cU 1 U (lx _ _ _ _ _ _ sV sU sU hW) fun v3 G3 Ho3 hle3 hp=>?_;obtain ⟨rfl,rfl⟩:=hp;replace his1:=his1.up hle3;replace ha:=ha.up hle3;refine aB 3 [] ?_;refine aV 1 U T.zero28 fun b2=>?_;refine aS 9 [1] ?_;refine aZ (cQ (cs:=[_,_,_]) T.st62 U U U) ?_;refine cZ U (pq _ _ _ _ _ _ sV sU) ?_;refine aS 17 [1] ?_;refine rQ 51 ?_;refine aB 8 [] ?_;refine rQ 56 ?_;refine aB 3 [0] ?_;refine aZ (cQ (cs:=[_,_,_,_,_,_,_,_,_,_,_,_,_,_,_]) T.st28 U U U) ?_;refine aB 1 [] ?_;refine cZ U (c15 _ 0 0 [] none none 0 0 ⟨0,0,[],[]⟩ ⟨0,0,[],[]⟩ ⟨0,0,[],[]⟩ none none none none none none none none none none none none 0 0 0 0 0 0 0 0 0 0 0 0 (fG _) (fG _) tI (fG _) (fG _) (fG _) (fG _) (fG _) (fG _) (fG _) (fG _) (fG _) (fG _) (fG _) (fG _) tI tI tI tI tI tI ) ?_;refine aB 2 [] ?_;refine rQ 61 ?_;refine aB 3 [1] ?_;refine aZ (cQ (cs:=[_,_,_,_,_,_,_,_,_,_,_,_,_,_,_]) T.st28 U U U) ?_;refine aB 1 [] ?_;refine cZ U (c15 _ 0 0 [] none none 0 0 ⟨0,0,[],[]⟩ ⟨0,0,[],[]⟩ ⟨0,0,[],[]⟩ none none none none none none none none none none none none 0 0 0 0 0 0 0 0 0 0 0 0 (fG _) (fG _) tI (fG _) (fG _) (fG _) (fG _) (fG _) (fG _) (fG _) (fG _) (fG _) (fG _) (fG _) (fG _) tI tI tI tI tI tI ) ?_;refine aY 6 [] ?_;rotate_left
 · refine cG ?_;exact ⟨U,U⟩
 refine cG ?_;exact ⟨by simp,rfl⟩
theorem gk (G:A2) (hT:TabOk G) (n1 n2:Nat) (a:J0 Addr) (c:Nat) (l:List R2) (ha:Arr G a l) (hl:l.length≤1048576) (hlc:l.length≤c) (hW:tT (n1:Int) (n2:Int) l=0) :
 Does Tryz.prog 20 [.int .i64 (n1:Int),.int .i64 (n2:Int),.slice a l.length c] G [] (fun v G' Ho=>∃ (X Y Z:PV) (pa xc xo yc yo zc zo:J0 Addr) (pd xcc xoc ycc yoc zcc zoc:Nat) (pj zk:List Value),v=.tuple #[.agg #[.int .i64 (n1:Int),.int .i64 (n2:Int),.slice pa l.length pd,.int .i64 X.ins,.int .i64 X.regs,.slice xc X.code.length xcc,.slice xo X.outs.length xoc,.int .i64 Y.ins,.int .i64 Y.regs,.slice yc Y.code.length ycc,.slice yo Y.outs.length yoc,.int .i64 Z.ins,.int .i64 Z.regs,.slice zc Z.code.length zcc,.slice zo Z.outs.length zoc],.int .i64 0]∧xQ n1 n2 l X Y Z=(0,0)∧(sW X=true∧sW Y=true∧sW Z=true)∧
  A3 pa pd l pj∧Arr G' xc X.code∧Arr G' xo X.outs∧Arr G' yc Y.code∧Arr G' yo Y.outs∧Arr G' zc Z.code∧A3 zo zoc Z.outs zk∧Ho=[(2,pa.map (·.block),Row 52 l pj),(7,zo.map (·.block),Row 3 Z.outs zk)]):=
 (vu G hT n1 n2 a c l ha hl hlc hW).mono fun v G' Ho _ ⟨pa,xc,xo,yc,yo,zc,zo,pd,xcc,xoc,ycc,yoc,zcc,zoc,pj,zk,e,h⟩=>by
  obtain ⟨hP1,hP2,hL,hRL⟩:=vZ hW;have hn1:1≤n1∧n1≤8:=by have:=hP1.1;have:=hP1.2;omega
  have hn2:1≤n2∧n2≤8:=by have:=hP2.1;have:=hP2.2;omega
  exact ⟨_,_,_,pa,xc,xo,yc,yo,zc,zo,pd,xcc,xoc,ycc,yoc,zcc,zoc,pj,zk,e,Vi hW,⟨(Ba (xB hRL hn1)).1,(Ba (xB hRL hn2)).1,(Ba (Cl hRL)).1⟩,h⟩
theorem xd (G:A2) (hT:TabOk G) (n1 n2:Nat) (a:J0 Addr) (c:Nat) (l:List R2) (ha:Arr G a l) (hl:l.length≤1048576) (hlc:l.length≤c) (hW:tT (n1:Int) (n2:Int) l=0) :
 Does Tryz.prog 34 [.int .i64 (n1:Int),.int .i64 (n2:Int),.slice a l.length c] G [] (fun v G' Ho=>∃ (X Y Z:PV) (pa xc xo yc yo zc zo:J0 Addr) (pd xcc xoc ycc yoc zcc zoc:Nat) (pj zj zk:List Value),v=.tuple #[.agg #[.int .i64 (n1:Int),.int .i64 (n2:Int),.slice pa l.length pd,.int .i64 X.ins,.int .i64 X.regs,.slice xc X.code.length xcc,.slice xo X.outs.length xoc,.int .i64 Y.ins,.int .i64 Y.regs,.slice yc Y.code.length ycc,.slice yo Y.outs.length yoc,.int .i64 Z.ins,.int .i64 Z.regs,.slice zc Z.code.length zcc,.slice zo Z.outs.length zoc],.int .i64 0]∧xQ n1 n2 l X Y Z=(0,0)∧(sW X=true∧sW Y=true∧sW Z=true)∧
  A3 pa pd l pj∧Arr G' xc X.code∧Arr G' xo X.outs∧Arr G' yc Y.code∧Arr G' yo Y.outs∧A3 zc zcc Z.code zj∧A3 zo zoc Z.outs zk∧Ho=[(1,pa.map (·.block),Row 52 l pj),(3,zc.map (·.block),Row 91 Z.code zj),(4,zo.map (·.block),Row 3 Z.outs zk)]):=
 (lz G hT n1 n2 a c l ha hl hlc hW).mono fun v G' Ho _ ⟨pa,xc,xo,yc,yo,zc,zo,pd,xcc,xoc,ycc,yoc,zcc,zoc,pj,zj,zk,e,h⟩=>by
  obtain ⟨hP1,hP2,hL,hRL⟩:=vZ hW;have hn1:1≤n1∧n1≤8:=by have:=hP1.1;have:=hP1.2;omega
  have hn2:1≤n2∧n2≤8:=by have:=hP2.1;have:=hP2.2;omega
  exact ⟨_,_,_,pa,xc,xo,yc,yo,zc,zo,pd,xcc,xoc,ycc,yoc,zcc,zoc,pj,zj,zk,e,VA hW,⟨xB hRL hn1,xB hRL hn2,Cl hRL⟩,h⟩
theorem c6Y (hWorks:∀ G,TabOk G→Does Tryz.prog 10 [] G [] (fun v G' Ho=>v=.bool (decide (1=1))∧G'=G∧Ho=[])) (G:A2) (hT:TabOk G) (n1 n2:Nat) (l:List R2) (a:J0 Addr) (c:Nat) (ha:Arr G a l) (hlc:l.length≤c) (hW:tT (n1:Int) (n2:Int) l=0) :
 Does Tryz.prog 6 [.int .i64 (n1:Int),.int .i64 (n2:Int),.slice a l.length c] G [] (fun v G' Ho=>v=.bool true∧Ho=[]):=by
 obtain ⟨hP1,hP2,hL,hRL⟩:=vZ hW;have hn1:1≤n1∧n1≤8:=by have:=hP1.1;have:=hP1.2;omega
 have hn2:1≤n2∧n2≤8:=by have:=hP2.1;have:=hP2.2;omega
 have hl15:l.length≤15:=sU;have hin:∀ i:Nat,i<l.length→near (l[i]?.getD default).a (l[i]?.getD default).b:=fun i hi=>(Xf hRL hi).1;refine D0 Tryz.func6 Tryz.ntmps6 fun w=>?_;refine aK 8 [] ?_;refine cZ U (hWorks _ hT) ?_;refine aZ (eJ U) ?_;refine aS 19 [0,0] ?_;refine cU 0 U (dw _ _ _ _ sV sU) fun v1 G1 Ho1 hle1 hp=>?_;obtain ⟨is1,id1,rfl,his1,hid1,rfl⟩:=hp;replace ha:=ha.up hle1;refine aS 8 [] ?_;refine cU 0 U (gk _ (hT.up Hl) n1 n2 _ _ _ sV sU sU hW) fun v2 G2 Ho2 hle2 hp=>?_;obtain ⟨X2,Y2,Z2,pa2,xc2,xo2,yc2,yo2,zc2,zo2,pd2,xcc2,xoc2,ycc2,yoc2,zcc2,zoc2,pj2,zk2,rfl,hU2,⟨hRx2,hRy2,hRz2⟩,hpo2,hxc2,hxo2,hyc2,hyo2,hzc2,hzo2,rfl⟩:=hp;replace his1:=his1.up hle2;replace ha:=ha.up hle2;refine aB 3 [] ?_;refine aV 8 U T.zero28 fun b1=>?_;refine aS 9 [8] ?_;refine cU 9 U (xd _ (hT.up Hl) n1 n2 _ _ _ sV sU sU hW) fun v3 G3 Ho3 hle3 hp=>?_;obtain ⟨X3,Y3,Z3,pa3,xc3,xo3,yc3,yo3,zc3,zo3,pd3,xcc3,xoc3,ycc3,yoc3,zcc3,zoc3,pj3,zj3,zk3,rfl,hU3,⟨hRx3,hRy3,hRz3⟩,hpo3,hxc3,hxo3,hyc3,hyo3,hzc3,hzo3,rfl⟩:=hp;replace hxc2:=hxc2.up hle3;replace hxo2:=hxo2.up hle3;replace hyc2:=hyc2.up hle3;replace hyo2:=hyo2.up hle3;replace hzc2:=hzc2.up hle3;replace his1:=his1.up hle3;replace ha:=ha.up hle3;refine aB 3 [] ?_;refine aV 14 U T.zero28 fun b2=>?_;refine aS 9 [14] ?_;refine aZ (cQ (cs:=[_,_,_]) T.st62 U U U) ?_;refine cZ U (pq _ _ _ _ _ _ sV sU) ?_;refine aS 19 [0] ?_;refine iW 68 ?_;refine bG 11 [0] ?_;obtain ⟨_,_,_,lx24,_,lx26,_,_⟩:=sZ hRx2;obtain ⟨_,_,_,ly24,_,ly26,_,_⟩:=sZ hRy2;obtain ⟨_,_,_,lz24,_,lz26,_,_⟩:=sZ hRz2;obtain ⟨_,_,_,lx34,_,lx36,_,_⟩:=sZ hRx3;obtain ⟨_,_,_,ly34,_,ly36,_,_⟩:=sZ hRy3;obtain ⟨_,_,_,lz34,_,lz36,_,_⟩:=sZ hRz3;refine nZ 12 U hzc3 fun G4 hle4 hzcA=>?_;have hzc3:=hzcA;replace hxc3:=hxc3.up hle4;replace hxo3:=hxo3.up hle4;replace hyc3:=hyc3.up hle4;replace hyo3:=hyo3.up hle4;replace hxc2:=hxc2.up hle4;replace hxo2:=hxo2.up hle4;replace hyc2:=hyc2.up hle4;replace hyo2:=hyo2.up hle4;replace hzc2:=hzc2.up hle4;replace his1:=his1.up hle4;replace ha:=ha.up hle4;have hG4:G.le G4:=bL (bL (bL hle1 hle2) hle3) hle4;refine aK 4 [8,14] ?_;refine eH (α:=UH) 15 ([⟨(n1:Int),(n2:Int),pa2,l.length,pd2,⟨X2.ins,X2.regs,xc2,X2.code.length,xcc2,xo2,X2.outs.length,xoc2⟩,⟨Y2.ins,Y2.regs,yc2,Y2.code.length,ycc2,yo2,Y2.outs.length,yoc2⟩,⟨Z2.ins,Z2.regs,zc2,Z2.code.length,zcc2,zo2,Z2.outs.length,zoc2⟩⟩,⟨(n1:Int),(n2:Int),pa3,l.length,pd3,⟨X3.ins,X3.regs,xc3,X3.code.length,xcc3,xo3,X3.outs.length,xoc3⟩,⟨Y3.ins,Y3.regs,yc3,Y3.code.length,ycc3,yo3,Y3.outs.length,yoc3⟩,⟨Z3.ins,Z3.regs,zc3,Z3.code.length,zcc3,zo3,Z3.outs.length,zoc3⟩⟩]:List UH) U T.sl63 T.el28 U U U U U fun b3=>?_;refine bG 5 [] ?_;refine nZ (α:=UH) 15 U (iJ Vt) fun G5 hle5 hUA=>?_;refine nN (ι:=Nat×A2×(List R2×List Int)×(List R2×List Int)) (fun (k,Gx,(up,uo),(rp,ro))=>([(76,.int .i64 (k:Int)),(75,.int .i64 ((2:Nat):Int)),(74,.slice (some ⟨b3,0,none⟩) 2 2),(7,.slice is1 (List.length l) id1),(0,.int .i64 (↑n1:Int)),(1,.int .i64 (↑n2:Int)),(2,.slice a (List.length l) c)],[(2,pa2.map (·.block),Row 52 up pj2),(7,zo2.map (·.block),Row 3 uo zk2),(10,pa3.map (·.block),Row 52 rp pj3),(13,zo3.map (·.block),Row 3 ro zk3),(14,some b2,.cells #[.int .i64 (↑n1:Int),.int .i64 (↑n2:Int),.slice pa3 (List.length l) pd3,.int .i64 (PV.ins X3),.int .i64 (PV.regs X3),.slice xc3 (List.length (PV.code X3)) xcc3,.slice xo3 (List.length (PV.outs X3)) xoc3,.int .i64 (PV.ins Y3),.int .i64 (PV.regs Y3),.slice yc3 (List.length (PV.code Y3)) ycc3,.slice yo3 (List.length (PV.outs Y3)) yoc3,.int .i64 (PV.ins Z3),.int .i64 (PV.regs Z3),.slice zc3 (List.length (PV.code Z3)) zcc3,.slice zo3 (List.length (PV.outs Z3)) zoc3] 28),(8,some b1,.cells #[.int .i64 (↑n1:Int),.int .i64 (↑n2:Int),.slice pa2 (List.length l) pd2,.int .i64 (PV.ins X2),.int .i64 (PV.regs X2),.slice xc2 (List.length (PV.code X2)) xcc2,.slice xo2 (List.length (PV.outs X2)) xoc2,.int .i64 (PV.ins Y2),.int .i64 (PV.regs Y2),.slice yc2 (List.length (PV.code Y2)) ycc2,.slice yo2 (List.length (PV.outs Y2)) yoc2,.int .i64 (PV.ins Z2),.int .i64 (PV.regs Z2),.slice zc2 (List.length (PV.code Z2)) zcc2,.slice zo2 (List.length (PV.outs Z2)) zoc2] 28)])) (fun (k,Gx,(up,uo),(rp,ro))=>Gx) (fun (k,Gx,(up,uo),(rp,ro))=>k≤2∧G5.le Gx∧(k=0→up=l∧uo=Z2.outs)∧(k≤1→rp=l∧ro=Z3.outs)) (fun (k,Gx,(up,uo),(rp,ro))=>2 - k) ((0,G5,(l,Z2.outs),(l,Z3.outs))) (⟨aP _,cX _,fun _=>⟨U,U⟩,fun _=>⟨U,U⟩⟩) U ⟨U,U,U,U,U,U,U,I3⟩ ⟨U,U,U,U,U,U,I3⟩ fun ⟨k,Gx,(up,uo),(rp,ro)⟩=>fun hk=>?_;obtain ⟨hk2,hgx,hst⟩:=hk;replace hUA:=hUA.up hgx;replace hxc2:=(hxc2.up hle5).up hgx;replace hxo2:=(hxo2.up hle5).up hgx;replace hyc2:=(hyc2.up hle5).up hgx;replace hyo2:=(hyo2.up hle5).up hgx;replace hzc2:=(hzc2.up hle5).up hgx;replace hxc3:=(hxc3.up hle5).up hgx;replace hxo3:=(hxo3.up hle5).up hgx;replace hyc3:=(hyc3.up hle5).up hgx;replace hyo3:=(hyo3.up hle5).up hgx;replace hzc3:=(hzc3.up hle5).up hgx;replace his1:=(his1.up hle5).up hgx;replace ha:=(ha.up hle5).up hgx;have hGx:G.le Gx:=bL (bL hG4 hle5) hgx;have hk4:k=0∨k=1∨k=2:=sU;rcases hk4 with rfl | rfl | rfl
 · obtain ⟨hup,huo⟩:=hst.1 U;replace hup:=hup.symm;subst hup;subst huo;refine bJ 6 [] ?_;refine rS U (show ((0:Nat):Int)<((2:Nat):Int) by decide) ?_;refine aK 6 [] ?_;refine aZ (lY (α:=UH) T.sl63 U U hUA (show 0≤((0:Nat):Int)∧((0:Nat):Int)<((2:Nat):Int) by decide)) ?_;refine aZ (jK T.agg28 U (nS hUA (show 0≤((0:Nat):Int)∧((0:Nat):Int)<((2:Nat):Int) by decide)) U) ?_;refine iK 79 U (show _=Value.agg #[.int .i64 (n1:Int),.int .i64 (n2:Int),.slice pa2 l.length pd2,.int .i64 X2.ins,.int .i64 X2.regs,.slice xc2 X2.code.length xcc2,.slice xo2 X2.outs.length xoc2,.int .i64 Y2.ins,.int .i64 Y2.regs,.slice yc2 Y2.code.length ycc2,.slice yo2 Y2.outs.length yoc2,.int .i64 Z2.ins,.int .i64 Z2.regs,.slice zc2 Z2.code.length zcc2,.slice zo2 Z2.outs.length zoc2] from U) ?_;refine aV 15 U T.zero28 fun b4=>?_;refine aS 6 [15,15] ?_;refine jM 60 U T.fn14 U (fun Gx9 hG9 hB9=>c14 Gx9 (n1:Int) (n2:Int) l pa2 pd2 X2 Y2 Z2 xc2 xo2 yc2 yo2 zc2 zo2 xcc2 xoc2 ycc2 yoc2 zcc2 zoc2 (gK hB9 2 U hpo2) hpo2.le sU (hxc2.up hG9) (hxo2.up hG9) sU sU (hyc2.up hG9) (hyo2.up hG9) sU sU (hzc2.up hG9) (gK hB9 7 U hzo2) sU sU) fun v8 Gy8 G8 Ho8 hle8 hp=>?_;obtain ⟨rfl,rfl⟩:=hp;refine iK 82 U (show _=Value.tuple #[.int .i64 0,.int .i64 0] by rw [hU2]) ?_;refine aS 13 [] ?_;refine iW 87 ?_;refine aB 10 [15] ?_;refine iW 93 ?_;refine aB 10 [15] ?_;refine iW 99 ?_;refine aB 7 [15] ?_;refine jM 16 U T.fn22 U (fun Gx hGx hgx=>(PM _ _ _ _ _ _ IW IW sU)) fun v1 Gx1 G1 Ho1 hlx1 hp=>?_;obtain ⟨rfl,rfl,rfl⟩:=hp;refine aB 1 [] ?_;refine aZ (eJ U) ?_;refine aS 9 [0,15] ?_;refine jM 70 U T.fn12 U (fun Gx9 hG9 hB9=>ou Gx9 (n1:Int) (n2:Int) pa2 pd2 l ⟨X2.ins,X2.regs,xc2,X2.code.length,xcc2,xo2,X2.outs.length,xoc2⟩ ⟨Y2.ins,Y2.regs,yc2,Y2.code.length,ycc2,yo2,Y2.outs.length,yoc2⟩ ⟨Z2.ins,Z2.regs,zc2,Z2.code.length,zcc2,zo2,Z2.outs.length,zoc2⟩ X2 Y2 Z2 (gK hB9 2 U hpo2) sU ⟨U,U,U,U,hxc2.up hG9,hxo2.up hG9⟩ ⟨U,U,U,U,hyc2.up hG9,hyo2.up hG9⟩ ⟨U,U,U,U,hzc2.up hG9,gK hB9 7 U hzo2⟩ sU sU sU sU sU sU) fun v9 Gy9 G9 Ho9 hle9 hp=>?_;obtain ⟨s9,d9,sj9,u9,w9,q9,rfl,hs9,rfl⟩:=hp;refine aV 73 U T.zero28 fun b5=>?_;refine aS 7 [73,15] ?_;refine sG (α:=R2) (xs:=l) 2 T.sl22 T.el52 U U U hpo2 fun hpo'=>?_;refine aS 7 [15] ?_;refine sG (α:=Int) (xs:=Z2.outs) 7 T.sl24 T.el3 U U U hzo2 fun hzo'=>?_;refine aS 7 [] ?_;refine cU 74 U (gk _ (hT.up Hl) n1 n2 _ _ _ sV sU sU hW) fun v6 G6 Ho6 hle6 hp=>?_;obtain ⟨X6,Y6,Z6,pa6,xc6,xo6,yc6,yo6,zc6,zo6,pd6,xcc6,xoc6,ycc6,yoc6,zcc6,zoc6,pj6,zk6,rfl,hU6,⟨hRx6,hRy6,hRz6⟩,hpo6,hxc6,hxo6,hyc6,hyo6,hzc6,hzo6,rfl⟩:=hp;replace hUA:=hUA.up hle6;replace hxc2:=hxc2.up hle6;replace hxo2:=hxo2.up hle6;replace hyc2:=hyc2.up hle6;replace hyo2:=hyo2.up hle6;replace hzc2:=hzc2.up hle6;replace hxc3:=hxc3.up hle6;replace hxo3:=hxo3.up hle6;replace hyc3:=hyc3.up hle6;replace hyo3:=hyo3.up hle6;replace hzc3:=hzc3.up hle6;replace his1:=his1.up hle6;replace ha:=ha.up hle6;refine aB 3 [] ?_;refine aV 82 U T.zero28 fun b6=>?_;refine aS 9 [82] ?_;refine iW 122 ?_;refine aB 3 [82] ?_;refine jM 83 U T.fn36 U (fun Gx hGx hgx=>(ow _ (n1:Int) (n2:Int) l _ _ X6 Y6 Z6 _ _ _ _ _ _ _ _ _ _ _ _ Qj sU sU sU hin Qj Qj hRx6 Qj Qj hRy6 Qj Qj hRz6)) fun v2 Gx2 G2 Ho2 hlx2 hp=>?_;obtain ⟨rfl,rfl,rfl⟩:=hp;refine aB 4 [] ?_;refine iW 127 ?_;refine aB 7 [73] ?_;refine jM 83 U T.fn22 U (fun Gx hGx hgx=>(PM _ _ _ _ _ _ Qj Qj sU)) fun v3 Gx3 G3 Ho3 hlx3 hp=>?_;obtain ⟨rfl,rfl,rfl⟩:=hp;refine aB 1 [] ?_;refine aZ (eJ U) ?_;refine aB 2 [] ?_;refine iW 134 ?_;refine aB 5 [] ?_;refine jM 83 U T.fn22 U (fun Gx hGx hgx=>(PM _ _ _ _ _ _ Qj Qj sU)) fun v4 Gx4 G4 Ho4 hlx4 hp=>?_;obtain ⟨rfl,rfl,rfl⟩:=hp;refine aB 1 [] ?_;refine aZ (eJ U) ?_;refine aY 11 [0] ?_;replace hle6:Gx.le G6:=hle6;refine dW 76 U (show _=Value.int .i64 ((1:Nat):Int) from U) ?_;refine cO ((1,G6,(List.replicate l.length default,List.replicate Z2.outs.length default),(rp,ro))) ?_ ?_
   · exact ⟨by omega,bL hgx hle6,fun h=>absurd h sU,fun _=>hst.2 tI⟩
   show 2 - 1<2 - 0;omega
 · obtain ⟨hup,huo⟩:=hst.2 tI;replace hup:=hup.symm;subst hup;subst huo;refine bJ 6 [] ?_;refine rS U (show ((1:Nat):Int)<((2:Nat):Int) by decide) ?_;refine aK 6 [] ?_;refine aZ (lY (α:=UH) T.sl63 U U hUA (show 0≤((1:Nat):Int)∧((1:Nat):Int)<((2:Nat):Int) by decide)) ?_;refine aZ (jK T.agg28 U (nS hUA (show 0≤((1:Nat):Int)∧((1:Nat):Int)<((2:Nat):Int) by decide)) U) ?_;refine iK 79 U (show _=Value.agg #[.int .i64 (n1:Int),.int .i64 (n2:Int),.slice pa3 l.length pd3,.int .i64 X3.ins,.int .i64 X3.regs,.slice xc3 X3.code.length xcc3,.slice xo3 X3.outs.length xoc3,.int .i64 Y3.ins,.int .i64 Y3.regs,.slice yc3 Y3.code.length ycc3,.slice yo3 Y3.outs.length yoc3,.int .i64 Z3.ins,.int .i64 Z3.regs,.slice zc3 Z3.code.length zcc3,.slice zo3 Z3.outs.length zoc3] from U) ?_;refine aV 15 U T.zero28 fun b4=>?_;refine aS 6 [15,15] ?_;refine jM 60 U T.fn14 U (fun Gx9 hG9 hB9=>c14 Gx9 (n1:Int) (n2:Int) l pa3 pd3 X3 Y3 Z3 xc3 xo3 yc3 yo3 zc3 zo3 xcc3 xoc3 ycc3 yoc3 zcc3 zoc3 (gK hB9 10 U hpo3) hpo3.le sU (hxc3.up hG9) (hxo3.up hG9) sU sU (hyc3.up hG9) (hyo3.up hG9) sU sU (hzc3.up hG9) (gK hB9 13 U hzo3) sU sU) fun v8 Gy8 G8 Ho8 hle8 hp=>?_;obtain ⟨rfl,rfl⟩:=hp;refine iK 82 U (show _=Value.tuple #[.int .i64 0,.int .i64 0] by rw [hU3]) ?_;refine aS 13 [] ?_;refine iW 87 ?_;refine aB 10 [15] ?_;refine iW 93 ?_;refine aB 10 [15] ?_;refine iW 99 ?_;refine aB 7 [15] ?_;refine jM 16 U T.fn22 U (fun Gx hGx hgx=>(PM _ _ _ _ _ _ IW IW sU)) fun v1 Gx1 G1 Ho1 hlx1 hp=>?_;obtain ⟨rfl,rfl,rfl⟩:=hp;refine aB 1 [] ?_;refine aZ (eJ U) ?_;refine aS 9 [0,15] ?_;refine jM 70 U T.fn12 U (fun Gx9 hG9 hB9=>ou Gx9 (n1:Int) (n2:Int) pa3 pd3 l ⟨X3.ins,X3.regs,xc3,X3.code.length,xcc3,xo3,X3.outs.length,xoc3⟩ ⟨Y3.ins,Y3.regs,yc3,Y3.code.length,ycc3,yo3,Y3.outs.length,yoc3⟩ ⟨Z3.ins,Z3.regs,zc3,Z3.code.length,zcc3,zo3,Z3.outs.length,zoc3⟩ X3 Y3 Z3 (gK hB9 10 U hpo3) sU ⟨U,U,U,U,hxc3.up hG9,hxo3.up hG9⟩ ⟨U,U,U,U,hyc3.up hG9,hyo3.up hG9⟩ ⟨U,U,U,U,hzc3.up hG9,gK hB9 13 U hzo3⟩ sU sU sU sU sU sU) fun v9 Gy9 G9 Ho9 hle9 hp=>?_;obtain ⟨s9,d9,sj9,u9,w9,q9,rfl,hs9,rfl⟩:=hp;refine aV 73 U T.zero28 fun b5=>?_;refine aS 7 [73,15] ?_;refine sG (α:=R2) (xs:=l) 10 T.sl22 T.el52 U U U hpo3 fun hpo'=>?_;refine aS 7 [15] ?_;refine sG (α:=Int) (xs:=Z3.outs) 13 T.sl24 T.el3 U U U hzo3 fun hzo'=>?_;refine aS 7 [] ?_;refine cU 74 U (gk _ (hT.up Hl) n1 n2 _ _ _ sV sU sU hW) fun v6 G6 Ho6 hle6 hp=>?_;obtain ⟨X6,Y6,Z6,pa6,xc6,xo6,yc6,yo6,zc6,zo6,pd6,xcc6,xoc6,ycc6,yoc6,zcc6,zoc6,pj6,zk6,rfl,hU6,⟨hRx6,hRy6,hRz6⟩,hpo6,hxc6,hxo6,hyc6,hyo6,hzc6,hzo6,rfl⟩:=hp;replace hUA:=hUA.up hle6;replace hxc2:=hxc2.up hle6;replace hxo2:=hxo2.up hle6;replace hyc2:=hyc2.up hle6;replace hyo2:=hyo2.up hle6;replace hzc2:=hzc2.up hle6;replace hxc3:=hxc3.up hle6;replace hxo3:=hxo3.up hle6;replace hyc3:=hyc3.up hle6;replace hyo3:=hyo3.up hle6;replace hzc3:=hzc3.up hle6;replace his1:=his1.up hle6;replace ha:=ha.up hle6;refine aB 3 [] ?_;refine aV 82 U T.zero28 fun b6=>?_;refine aS 9 [82] ?_;refine iW 122 ?_;refine aB 3 [82] ?_;refine jM 83 U T.fn36 U (fun Gx hGx hgx=>(ow _ (n1:Int) (n2:Int) l _ _ X6 Y6 Z6 _ _ _ _ _ _ _ _ _ _ _ _ Qk sU sU sU hin Qk Qk hRx6 Qk Qk hRy6 Qk Qk hRz6)) fun v2 Gx2 G2 Ho2 hlx2 hp=>?_;obtain ⟨rfl,rfl,rfl⟩:=hp;refine aB 4 [] ?_;refine iW 127 ?_;refine aB 7 [73] ?_;refine jM 83 U T.fn22 U (fun Gx hGx hgx=>(PM _ _ _ _ _ _ Qk Qk sU)) fun v3 Gx3 G3 Ho3 hlx3 hp=>?_;obtain ⟨rfl,rfl,rfl⟩:=hp;refine aB 1 [] ?_;refine aZ (eJ U) ?_;refine aB 2 [] ?_;refine iW 134 ?_;refine aB 5 [] ?_;refine jM 83 U T.fn22 U (fun Gx hGx hgx=>(PM _ _ _ _ _ _ Qk Qk sU)) fun v4 Gx4 G4 Ho4 hlx4 hp=>?_;obtain ⟨rfl,rfl,rfl⟩:=hp;refine aB 1 [] ?_;refine aZ (eJ U) ?_;refine aY 11 [0] ?_;replace hle6:Gx.le G6:=hle6;refine dW 76 U (show _=Value.int .i64 ((2:Nat):Int) from U) ?_;refine cO ((2,G6,(up,uo),(List.replicate l.length default,List.replicate Z3.outs.length default))) ?_ ?_
   · exact ⟨by omega,bL hgx hle6,fun h=>absurd h sU,fun h=>absurd h sU⟩
   show 2 - 2<2 - 1;omega
 refine bE 18 [0] ?_;refine cG ?_;exact ⟨U,U⟩
theorem c6 (hWorks:∀ G,TabOk G→Does Tryz.prog 10 [] G [] (fun v G' Ho=>v=.bool (decide (1=1))∧G'=G∧Ho=[])) (G:A2) (hT:TabOk G) (k1 k2:Int) (l:List R2) (a:J0 Addr) (c:Nat) (ha:Arr G a l) (hlc:l.length≤c) (hl:l.length≤1048576) :
 Does Tryz.prog 6 [.int .i64 k1,.int .i64 k2,.slice a l.length c] G [] (fun v G' Ho=>v=.bool true∧Ho=[]):=by
 by_cases hW:tT k1 k2 l=0
 · obtain ⟨hP1,hP2,hL,hRL⟩:=vZ hW;obtain ⟨n1,rfl⟩:∃ n:Nat,k1=(n:Int):=⟨k1.toNat,by have:=hP1.1;omega⟩
   obtain ⟨n2,rfl⟩:∃ n:Nat,k2=(n:Int):=⟨k2.toNat,by have:=hP2.1;omega⟩
   exact c6Y hWorks G hT n1 n2 l a c ha hlc hW
 exact c6N hWorks G hT k1 k2 l a c ha hlc hl hW
end
end Go.Proofs.YtfdcckcadfhpeaaGreatDoor
end
