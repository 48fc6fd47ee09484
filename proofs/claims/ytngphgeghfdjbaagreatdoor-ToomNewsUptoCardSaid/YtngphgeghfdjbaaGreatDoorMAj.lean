/- sT of the proof (part 10): what the rows' text needs of the texts that lead to it. -/
import Derived.Test.YtngphgeghfdjbaaGreatDoorMAi
set_option linter.unusedVariables false
set_option linter.unusedSimpArgs false
set_option linter.unusedSectionVars false
set_option maxHeartbeats 4000000
noncomputable section
set_option maxRecDepth 100000
namespace Go.Sl.Ev
open Go Go.Sl
def Ox:Operand→Gt
 | .tmp t=>gt (Nat.succ t) t
 | .const v=>Option.rec (motive:=fun _=>Gt) ⟨fun _=>none⟩ (fun c=>⟨fun _=>some c⟩) (KZ v)
 | .func f=>⟨fun _=>some (.fn f .nil .nil)⟩
 | .global _=>⟨fun _=>none⟩
theorem vK (x:Operand) (E:Tr CV):(Ox x).run E=sU E x:=by
 cases x with
 | tmp t=>exact RE _ _ _ (cK t)
 | const v =>
   show (Option.rec (motive:=fun _=>Gt) ⟨fun _=>none⟩ (fun c=>⟨fun _=>some c⟩) (KZ v):Gt).run E=KZ v
   cases KZ v <;> rfl
 | func f=>rfl
 | global g=>rfl
def Ur (n:Nat):Option Nat→Option St
 | none=>some ⟨fun _ E=>E⟩
 | some d=>bif Nat.ble (Nat.succ d) n then some (st rO d) else none
theorem Hf {n:Nat} {d:Option Nat} {p:St} (h:Ur n d=some p) (E:Tr CV) (v:CV):vX E n d v=some (p.run v E):=by
 cases d with
 | none=>cases h;rfl
 | some d =>
   have h':(bif Nat.ble (Nat.succ d) n then some (st rO d) else none)=some p:=h
   rcases rK h' with ⟨h1,h2⟩ | ⟨_,h2⟩
   · cases h2
     show (bif Nat.ble (Nat.succ d) n then some (E.set (some v) rO d) else none)=_
     rw [h1,RF];rfl
   cases h2
structure Bi where
 run:IntKind→Int→Int→Option CV
def RG:BinOp→Bi
 | .add=>⟨fun k m n=>bo .add k m n⟩
 | o=>⟨fun k m n=>bo o k m n⟩
def yG (P:Program) (pr:sY) (o:Oper) (n:Nat) (p:St) (f:Tr CV→Tr CB→Option CV):Co:=
 ⟨fun ih E h nx k=>Option.rec (motive:=fun _=>Res) ((My P pr o n).run ih E h nx k) (fun c=>k (p.run c E) h nx) (f E h)⟩
def Bp (P:Program) (pr:sY) (o:Oper) (n:Nat) (p:St) (f:Tr CV→Tr CB→Nat→Ro):Co:=
 ⟨fun ih E h nx k=>Ro.rec (motive:=fun _=>Res) ((My P pr o n).run ih E h nx k) (fun c h nx=>k (p.run c E) h nx) (fun h nx=>match o.dst with | none=>k E h nx | some _=>.bad 10 []) (f E h nx)⟩
def GR (o:Oper) (n:Nat):Co:=
 ⟨fun ih E h nx k=>match Ft ih E n h nx o.dst o.op with | .ok _ E h nx=>k E h nx | .ret _ _ _=>.bad 70 [] | .bad w a=>.bad w a⟩
def LH (a b:Option CV) (f:IntKind→Int→Int→Option CV):Option CV:=
 Option.rec (motive:=fun _=>Option CV) none (fun a=>match a with
  | .int k m=>Option.rec (motive:=fun _=>Option CV) none (fun b=>match b with | .int k' n=>bif AX k k' then f k m n else none | _=>none) b
  | _=>none) a
def HI (P:Program) (pr:sY) (o:Oper) (n:Nat):Co:=match Ur n o.dst with
 | some p=>match o.op with
   | .move x=>yG P pr o n p (fun E _=>(Ox x).run E)
   | .assign x=>yG P pr o n p (fun E _=>(Ox x).run E)
   | .extract x i=>yG P pr o n p (fun E _=>match (Ox x).run E with | some (.tup l)=>Ek l i | _=>none)
   | .nilCheck x=>yG P pr o n p (fun E _=>match (Ox x).run E with | some (.ptr t o)=>some (.ptr t o) | _=>none)
   | .fieldAddr s x f=>(match SB P s f with
     | some j=>yG P pr o n p (fun E _=>match (Ox x).run E with | some (.ptr t o)=>some (.ptr t (Nat.add o j)) | _=>none)
     | none=>My P pr o n)
   | .load T x=>bif tZ P T then yG P pr o n p (fun E h=>match (Ox x).run E with | some (.ptr t o)=>(match h.get t with | some (.cells l _ _ _)=>Zy l o | _=>none) | _=>none) else My P pr o n
   | .pick c x y=>yG P pr o n p (fun E _=>match (Ox c).run E with | some (.bool b)=>Bool.rec (motive:=fun _=>Option CV) ((Ox y).run E) ((Ox x).run E) b | _=>none)
   | .unOp .not _ x=>yG P pr o n p (fun E _=>match (Ox x).run E with | some (.bool b)=>some (.bool (not b)) | _=>none)
   | .convert s t x=>(match P.underlying t with
     | some (.int k')=>(match P.underlying s with
       | some _=>yG P pr o n p (fun E _=>match (Ox x).run E with | some (.int _ m)=>some (.int k' (wr k' m)) | _=>none)
       | none=>My P pr o n)
     | _=>My P pr o n)
   | .indexAddr T x i=>(match Mj P T with
     | some (_,sz')=>yG P pr o n p (fun E _=>match (Ox i).run E with
       | some (.int _ m)=>(match (Ox x).run E with | some (.sl t o n sz _)=>bif Nat.beq sz sz' && (uO 0 m && not (uO n m)) then some (.ptr t (Nat.add o (Nat.mul m.toNat sz'))) else none | _=>none)
       | _=>none)
     | none=>My P pr o n)
   | .call ⟨.builtin .len,⟨[x]⟩,⟨[T]⟩⟩=>(match Mj P T with
     | some _=>yG P pr o n p (fun E _=>match (Ox x).run E with | some (.sl _ _ n _ _)=>some (.int .i64 n) | some .nils=>some (.int .i64 0) | _=>none)
     | none=>My P pr o n)
   | .alloc T=>Bp P pr o n p (fun E h nx=>wv0 P E h nx T)
   | .box T x=>Bp P pr o n p (fun E h nx=>wv1 P E h nx T x)
   | .store T x y=>Bp P pr o n p (fun E h nx=>wv2 P E h nx T x y)
   | .buildSlice T m ⟨parts⟩=>Bp P pr o n p (fun E h nx=>wv3 P E h nx T m parts)
   | .makeSlice T x y=>Bp P pr o n p (fun E h nx=>wv4 P E h nx T x y)
   | .call ⟨.builtin .append,⟨[s,x]⟩,⟨[T,tx]⟩⟩=>Bp P pr o n p (fun E h nx=>SK P E h nx T tx s x)
   | .call ⟨.value f,args,ats⟩=>bif QS P f then My P pr o n else GR o n
   | .binOp b t x y _=>(match b with
     | .shl=>My P pr o n
     | .shr=>My P pr o n
     | b=>yG P pr o n p (fun E _=>LH ((Ox x).run E) ((Ox y).run E) (RG b).run))
   | _=>My P pr o n
 | none=>My P pr o n
section
variable {P:Program} {Φ:Imm→Prop} {pr:sY}
theorem AR {o:Oper} {n:Nat} {E:Tr CV} {h:Tr CB} {nx:Nat} {c:CV} {E':Tr CV} (hq:qv P E h o.op=some c) (hp:vX E n o.dst c=some E'):rL P Φ (.one o n E h nx) (.ok .normal E' h nx):=by
 have H:=yD (pr:=[]) (xR (P:=P) (Φ:=Φ)) o n E h nx
 have e:step P [] (fun _=>.bad 0 []) (.one o n E h nx)=Res.ok .normal E' h nx:=by
  show Dh P [] _ o n E h nx=_
  unfold Dh
  simp only [hq,hp]
 rw [e] at H
 exact H
theorem uB {o:Oper} {n:Nat} {p:St} {f:Tr CV→Tr CB→Option CV} (hp:Ur n o.dst=some p) (hf:∀ E h c,f E h=some c→qv P E h o.op=some c):Uq P Φ (yG P pr o n p f) o n:=fun ih H E h nx=>by
 show Et (fun k=>Option.rec (motive:=fun _=>Res) ((My P pr o n).run ih E h nx k) (fun c=>k (p.run c E) h nx) (f E h)) _
 cases hc:f E h with
 | none=>exact vZ o n ih H E h nx
 | some c=>exact .inr ⟨p.run c E,h,nx,fun k=>rfl,AR (hf E h c hc) (Hf hp E c)⟩
theorem wV {o:Oper} {n:Nat} {p:St} {f:Tr CV→Tr CB→Nat→Ro} (hp:Ur n o.dst=some p) (hq:∀ E h,qv P E h o.op=none) (hw:∀ E h nx,wv P E h nx o.op=f E h nx):Uq P Φ (Bp P pr o n p f) o n:=fun ih H E h nx=>by
 show Et (fun k=>Ro.rec (motive:=fun _=>Res) ((My P pr o n).run ih E h nx k) (fun c h nx=>k (p.run c E) h nx) (fun h nx=>match o.dst with | none=>k E h nx | some _=>.bad 10 []) (f E h nx)) _
 have hs:=yD (pr:=[]) (xR (P:=P) (Φ:=Φ)) o n E h nx
 have hwm:f E h nx≠.bad→wm P E h nx o.op=f E h nx:=fun hb=>by
  unfold wm
  rw [hw]
  cases hf:f E h nx with
  | bad=>exact absurd hf hb
  | val c h' nx'=>rfl
  | unit h' nx'=>rfl
 cases hf:f E h nx with
 | bad=>exact vZ o n ih H E h nx
 | val c h' nx' =>
   have e:=hwm (by rw [hf];intro h;cases h)
   rw [hf] at e
   have e2:step P [] (fun _=>.bad 0 []) (.one o n E h nx)=Res.ok .normal (p.run c E) h' nx':=by
    show Dh P [] _ o n E h nx=_
    unfold Dh
    simp only [hq,e,Hf hp]
   rw [e2] at hs
   exact .inr ⟨p.run c E,h',nx',fun k=>rfl,hs⟩
 | unit h' nx' =>
   have e:=hwm (by rw [hf];intro h;cases h)
   rw [hf] at e
   cases hd:o.dst with
   | some d=>exact .inl ⟨10,[],fun k=>by simp only [hd]⟩
   | none =>
     have e2:step P [] (fun _=>.bad 0 []) (.one o n E h nx)=Res.ok .normal E h' nx':=by
      show Dh P [] _ o n E h nx=_
      unfold Dh
      simp only [hq,e,hd]
     rw [e2] at hs
     exact .inr ⟨E,h',nx',fun k=>by simp only [hd],hs⟩
theorem AS {o:Oper} {n:Nat} (hq:∀ E h,qv P E h o.op=none) (hw:∀ E h nx,wm P E h nx o.op=.bad):Uq P Φ (GR o n) o n:=fun ih H E h nx=>by
 have hs:=yD (pr:=[]) H o n E h nx
 have e2:step P [] ih (.one o n E h nx)=Ft ih E n h nx o.dst o.op:=by
  show Dh P [] _ o n E h nx=_
  unfold Dh
  simp only [hq,hw]
 rw [e2] at hs
 show Et (fun k=>match Ft ih E n h nx o.dst o.op with | .ok _ E h nx=>k E h nx | .ret _ _ _=>.bad 70 [] | .bad w a=>.bad w a) _
 generalize Ft ih E n h nx o.dst o.op=q at hs
 cases q with
 | bad w a=>exact .inl ⟨w,a,fun k=>rfl⟩
 | ret v h' nx'=>exact .inl ⟨70,[],fun k=>rfl⟩
 | ok x E' h' nx' =>
   have hx:x=.normal:=hs.1
   subst hx
   exact .inr ⟨E',h',nx',fun k=>rfl,hs⟩
theorem KJ (b:BinOp) (k:IntKind) (m n:Int):(RG b).run k m n=bo b k m n:=by cases b <;> rfl
theorem GS {a b:Option CV} {f:IntKind→Int→Int→Option CV} {c:CV} (h:LH a b f=some c):∃ k m n,a=some (.int k m)∧∃ k',b=some (.int k' n)∧AX k k'=true∧f k m n=some c:=by
 cases a with
 | none=>cases h
 | some a =>
   cases a with
   | int k m =>
     cases b with
     | none=>cases h
     | some b =>
       cases b with
       | int k' n =>
         have h':(bif AX k k' then f k m n else none)=some c:=h
         rcases rK h' with ⟨h1,h2⟩ | ⟨_,h2⟩
         · exact ⟨k,m,n,rfl,k',rfl,h1,h2⟩
         · cases h2
       | _=>cases h
   | _=>cases h
theorem Us (o:Oper) (n:Nat):Uq P Φ (HI P pr o n) o n:=by
 unfold HI
 split
 · rename_i p hp
   split
   · rename_i x hop
     exact uB hp fun E h c hc=>by rw [hop];rw [vK] at hc;exact hc
   · rename_i x hop
     exact uB hp fun E h c hc=>by rw [hop];rw [vK] at hc;exact hc
   · rename_i x i hop
     exact uB hp fun E h c hc=>by rw [hop];rw [vK] at hc;exact hc
   · rename_i x hop
     refine uB hp fun E h c hc=>?_
     rw [hop]
     rw [vK] at hc
     split at hc
     · rename_i t o' hx
       cases hc
       show SH P E h x=_
       unfold SH
       rw [hx]
     cases hc
   · rename_i s x f hop
     split
     · rename_i j hj
       refine uB hp fun E h c hc=>?_
       rw [hop]
       rw [vK] at hc
       split at hc
       · rename_i t o' hx
         cases hc
         show SI P E h s x f=_
         unfold SI
         rw [hx]
         simp only [hj]
       cases hc
     exact vZ o n
   · rename_i T x hop
     refine rN (fun c=>Uq P Φ c o n) (fun h1=>?_) fun _=>vZ o n
     refine uB hp fun E h c hc=>?_
     rw [hop]
     rw [vK] at hc
     split at hc
     · rename_i t o' hx
       split at hc
       · rename_i l ty op st hb
         show JY P E h T x=_
         unfold JY
         rw [hx]
         simp only [hb,h1,fT]
         exact hc
       cases hc
     cases hc
   · rename_i c x y hop
     refine uB hp fun E h c' hc=>?_
     rw [hop]
     simp only [vK] at hc
     split at hc
     · rename_i b hb
       show SE P E h c x y=_
       unfold SE
       rw [hb]
       cases b <;> exact hc
     cases hc
   · rename_i tt x hop
     refine uB hp fun E h c hc=>?_
     rw [hop]
     rw [vK] at hc
     exact hc
   · rename_i s t x hop
     split
     · rename_i k' ht
       split
       · rename_i d hd
         refine uB hp fun E h c hc=>?_
         rw [hop]
         rw [vK] at hc
         show SG P E h s t x=_
         unfold SG
         rw [ht]
         simp only [hd]
         exact hc
       exact vZ o n
     exact vZ o n
   · rename_i T x i hop
     split
     · rename_i e' sz' hT
       refine uB hp fun E h c hc=>?_
       rw [hop]
       simp only [vK] at hc
       split at hc
       · rename_i k m hi
         split at hc
         · rename_i t o' N sz cc hx
           show JZ P E h T x i=_
           unfold JZ
           rw [hi]
           simp only [hx,hT]
           exact hc
         cases hc
       cases hc
     exact vZ o n
   · rename_i x T hop
     split
     · rename_i e' hT
       refine uB hp fun E h c hc=>?_
       rw [hop]
       rw [vK] at hc
       split at hc
       · rename_i t o' N sz cc hx
         show AF P E h x T=_
         unfold AF
         rw [hx]
         simp only [hT]
         exact hc
       · rename_i hx
         show AF P E h x T=_
         unfold AF
         rw [hx]
         simp only [hT]
         exact hc
       cases hc
     exact vZ o n
   · rename_i T hop
     exact wV hp (fun E h=>by rw [hop];rfl) fun E h nx=>by rw [hop];rfl
   · rename_i T x hop
     exact wV hp (fun E h=>by rw [hop];rfl) fun E h nx=>by rw [hop];rfl
   · rename_i T x y hop
     exact wV hp (fun E h=>by rw [hop];rfl) fun E h nx=>by rw [hop];rfl
   · rename_i T m parts hop
     exact wV hp (fun E h=>by rw [hop];rfl) fun E h nx=>by rw [hop];rfl
   · rename_i T x y hop
     exact wV hp (fun E h=>by rw [hop];rfl) fun E h nx=>by rw [hop];rfl
   · rename_i s x T tx hop
     exact wV hp (fun E h=>by rw [hop];rfl) fun E h nx=>by rw [hop];rfl
   · rename_i f args ats hop
     refine rN (fun c=>Uq P Φ c o n) (fun _=>vZ o n) fun hf=>?_
     exact AS (fun E h=>by rw [hop];rfl) fun E h nx=>by rw [hop];exact KE hf
   · rename_i b t x y tt hop
     split
     · exact vZ o n
     · exact vZ o n
     rename_i hb1 hb2
     refine uB hp fun E h c hc=>?_
     rw [hop]
     rw [vK,vK] at hc
     obtain ⟨k,m,m',e1,k',e2,e3,e4⟩:=GS hc
     rw [KJ] at e4
     show SF P E h b t x y=_
     unfold SF
     rw [e1]
     simp only [e2]
     have e5:sh b k m m'=none:=by
      cases b <;> first | rfl | exact absurd rfl hb1 | exact absurd rfl hb2
     rw [e5]
     simp only [e3,fT]
     exact e4
   exact vZ o n
 exact vZ o n
def KK (l:List Co):(Cmd→Res)→Tr CV→Tr CB→Nat→Kt→Res:=
 List.rec (motive:=fun _=>(Cmd→Res)→Tr CV→Tr CB→Nat→Kt→Res) (fun _ E h nx k=>k E h nx) (fun a _ r ih E h nx k=>a.run ih E h nx (fun E h nx=>r ih E h nx k)) l
def KM (P:Program) (pr:sY) (n:Nat) (l:List Oper):List Co:=List.rec (motive:=fun _=>List Co) [] (fun o _ ih=>HI P pr o n :: ih) l
def Eu (l:List Oper):Bool:=List.rec (motive:=fun _=>Bool) true (fun o _ ih=>(match o.guard with | none=>true | some _=>false) && ih) l
def Oy (c1:Cmd) (r1:Res):Cmd→Res:=fun c=>open Classical in if c=c1 then r1 else .bad 0 []
theorem Kd {c1:Cmd} {r1:Res} (H:rL P Φ c1 r1):Up P Φ (Oy c1 r1):=fun c=>by
 unfold Oy
 split
 · rename_i e;subst e;exact H
 exact zW c 0 []
theorem wC (c1:Cmd) (r1:Res):Oy c1 r1 c1=r1:=by unfold Oy;rw [aR rfl]
def Li (c1:Cmd) (r1:Res) (c2:Cmd) (r2:Res):Cmd→Res:=fun c=>open Classical in if c=c1 then r1 else if c=c2 then r2 else .bad 0 []
theorem Dm {c1 c2:Cmd} {r1 r2:Res} (H1:rL P Φ c1 r1) (H2:rL P Φ c2 r2):Up P Φ (Li c1 r1 c2 r2):=fun c=>by
 unfold Li
 split
 · rename_i e;subst e;exact H1
 split
 · rename_i e;subst e;exact H2
 exact zW c 0 []
theorem Oz (c1:Cmd) (r1:Res) (c2:Cmd) (r2:Res):Li c1 r1 c2 r2 c1=r1:=by unfold Li;rw [aR rfl]
theorem Pa {c1 c2:Cmd} (h:c2≠c1) (r1 r2:Res):Li c1 r1 c2 r2 c2=r2:=by unfold Li;rw [aK h,aR rfl]
theorem GU {all rest:List Oper} {o:Oper} {n:Nat} {E E1 E2:Tr CV} {h h1 h2:Tr CB} {nx nx1 nx2:Nat} (hg:o.guard=none) (H1:rL P Φ (.one o n E h nx) (.ok .normal E1 h1 nx1)) (H2:rL P Φ (.ops all rest n E1 h1 nx1) (.ok .normal E2 h2 nx2)):rL P Φ (.ops all (o :: rest) n E h nx) (.ok .normal E2 h2 nx2):=by
 have H:=Dk (pr:=[]) (Dm H1 H2) all (o :: rest) n E h nx
 have e:step P [] (Li (.one o n E h nx) (.ok .normal E1 h1 nx1) (.ops all rest n E1 h1 nx1) (.ok .normal E2 h2 nx2)) (.ops all (o :: rest) n E h nx)=Res.ok .normal E2 h2 nx2:=by
  show GL P [] _ all (o :: rest) n E h nx=_
  unfold GL
  simp only [hg,Oz]
  exact Pa Ew _ _
 rw [e] at H
 exact H
theorem KN (all:List Oper) (n:Nat) (E:Tr CV) (h:Tr CB) (nx:Nat):rL P Φ (.ops all [] n E h nx) (.ok .normal E h nx):=Dk (pr:=[]) (xR (P:=P) (Φ:=Φ)) all [] n E h nx
theorem Xk {ih:Cmd→Res} (H:Up P Φ ih) (all:List Oper) (n:Nat):∀ (l:List Oper) (E:Tr CV) (h:Tr CB) (nx:Nat),Eu l=true→Et (KK (KM P pr n l) ih E h nx) (fun E' h' nx'=>rL P Φ (.ops all l n E h nx) (.ok .normal E' h' nx'))
 | [],E,h,nx,_=>.inr ⟨E,h,nx,fun k=>rfl,KN all n E h nx⟩
 | o :: l,E,h,nx,hl=>by
   have hl':((match o.guard with | none=>true | some _=>false) && Eu l)=true:=hl
   rw [aB] at hl'
   have hg:o.guard=none:=by cases hgg:o.guard with | none=>rfl | some x=>rw [hgg] at hl';cases hl'.1
   have H1:=Us (pr:=pr) o n ih H E h nx
   show Et (fun k=>(HI P pr o n).run ih E h nx (fun E h nx=>KK (KM P pr n l) ih E h nx k)) _
   rcases H1 with ⟨w,a,hb⟩ | ⟨E1,h1,nx1,hk,hd⟩
   · exact .inl ⟨w,a,fun k=>hb _⟩
   rcases Xk H all n l E1 h1 nx1 hl'.2 with ⟨w,a,hb⟩ | ⟨E2,h2,nx2,hk2,hd2⟩
   · exact .inl ⟨w,a,fun k=>(hk _).trans (hb k)⟩
   exact .inr ⟨E2,h2,nx2,fun k=>(hk _).trans (hk2 k),GU hg hd hd2⟩
end
abbrev Pd:=List (Nat×Nat×Nat)
structure Cr where
 run:(Cmd→Res)→Pd→Tr CV→Tr CB→Nat→Kt→Res
def Sm (o:Oper) (i nx:Nat) (E:Tr CV) (pend:Pd):Pd:=match FS E o.op with | some t=>(t,i,nx) :: pend | none=>pend
def Ke (P:Program) (pr:sY) (n:Nat) (l:List Oper) (plan:List (Nat×Pk)):Cr:=List.rec (motive:=fun _=>Cr) ⟨fun _ _ E h nx k=>k E h nx⟩ (fun x _ r=>match Br l x.1 with
 | some o=>(match o.guard with
   | none=>(match Ur n o.dst with
     | some p=>(match x.2 with
       | .look=>⟨fun ih pend E h nx k=>Option.rec (motive:=fun _=>Res) (.bad 26 [o]) (fun c=>r.run ih (Sm o x.1 nx E pend) (p.run c E) h nx k) (qv P E h o.op)⟩
       | .only=>⟨fun ih pend E h nx k=>(HI P pr o n).run ih E h nx (fun E h nx=>bif vP h (rY o pend) then r.run ih (rY o pend) E h nx k else .bad 28 [o])⟩
       | .race R=>⟨fun ih pend E h nx k=>bif wN P l R n (sF l R E) h nx then (HI P pr o n).run ih (sF l R E) h nx (fun E h nx=>bif vP h (rY o pend) then r.run ih (rY o pend) E h nx k else .bad 28 [o]) else .bad 32 [o]⟩
       | .make R=>⟨fun ih pend E h nx k=>bif wN P l R n (sF l R E) h nx then (match wm P (sF l R E) h nx o.op with | .val c h nx=>r.run ih (rY o pend) (p.run c (sF l R E)) h nx k | _=>.bad 34 [o]) else .bad 35 [o]⟩)
     | none=>⟨fun _ _ _ _ _ _=>.bad 25 [o]⟩)
   | some _=>⟨fun _ _ _ _ _ _=>.bad 30 [o]⟩)
 | none=>⟨fun _ _ _ _ _ _=>.bad 31 []⟩) plan
section
variable {P:Program} {Φ:Imm→Prop} {pr:sY}
theorem Xl {c':Cmd} {r r':Res} (H:rL P Φ c' r) (l:List Oper) (plan:List (Nat×Pk)) (pend:Pd) (n:Nat) (E:Tr CV) (h:Tr CB) (nx:Nat) (e:step P [] (Oy c' r) (.reg l plan pend n E h nx)=r'):rL P Φ (.reg l plan pend n E h nx) r':=by
 rw [←e];exact yF (Kd H) l plan pend n E h nx
theorem Xm {l:List Oper} {E:Tr CV} {o:Oper} (h:o.guard=none):LG l E o=some true:=by unfold LG;rw [h]
theorem GV {l:List Oper} {plan:List (Nat×Pk)} {pend:Pd} {n i:Nat} {E E':Tr CV} {h:Tr CB} {nx:Nat} {o:Oper} {c:CV} {r:Res} (hl:Br l i=some o) (hg:o.guard=none) (hq:qv P E h o.op=some c) (hp:vX E n o.dst c=some E')
 (H:rL P Φ (.reg l plan (Sm o i nx E pend) n E' h nx) r):rL P Φ (.reg l ((i,.look) :: plan) pend n E h nx) r:=by
 refine Xl H l _ pend n E h nx ?_
 show Di P [] _ l ((i,.look) :: plan) pend n E h nx=_
 unfold Di
 simp only [hl,Xm hg,fT,hq,hp]
 exact wC _ _
theorem AT {l:List Oper} {plan:List (Nat×Pk)} {pend:Pd} {n i:Nat} {E E':Tr CV} {h h':Tr CB} {nx nx':Nat} {o:Oper} {r:Res} (hl:Br l i=some o) (hg:o.guard=none) (H1:rL P Φ (.one o n E h nx) (.ok .normal E' h' nx')) (hk:vP h' (rY o pend)=true)
 (H2:rL P Φ (.reg l plan (rY o pend) n E' h' nx') r):rL P Φ (.reg l ((i,.only) :: plan) pend n E h nx) r:=by
 have H:=yF (pr:=[]) (Dm H1 H2) l ((i,.only) :: plan) pend n E h nx
 have e:step P [] (Li (.one o n E h nx) (.ok .normal E' h' nx') (.reg l plan (rY o pend) n E' h' nx') r) (.reg l ((i,.only) :: plan) pend n E h nx)=r:=by
  show Di P [] _ l ((i,.only) :: plan) pend n E h nx=_
  unfold Di
  simp only [hl,Xm hg,fT,lG,Oz,hk]
  exact Pa Ew _ _
 rw [e] at H
 exact H
theorem GW {l:List Oper} {plan:List (Nat×Pk)} {R:List Nat} {pend:Pd} {n i:Nat} {E E':Tr CV} {h h':Tr CB} {nx nx':Nat} {o:Oper} {r:Res} (hl:Br l i=some o) (hq:wN P l R n (sF l R E) h nx=true) (H1:rL P Φ (.one o n (sF l R E) h nx) (.ok .normal E' h' nx')) (hk:vP h' (rY o pend)=true)
 (H2:rL P Φ (.reg l plan (rY o pend) n E' h' nx') r):rL P Φ (.reg l ((i,.race R) :: plan) pend n E h nx) r:=by
 have H:=yF (pr:=[]) (Dm H1 H2) l ((i,.race R) :: plan) pend n E h nx
 have e:step P [] (Li (.one o n (sF l R E) h nx) (.ok .normal E' h' nx') (.reg l plan (rY o pend) n E' h' nx') r) (.reg l ((i,.race R) :: plan) pend n E h nx)=r:=by
  show Di P [] _ l ((i,.race R) :: plan) pend n E h nx=_
  unfold Di
  simp only [hl,hq,fT,Oz,hk]
  exact Pa Ew _ _
 rw [e] at H
 exact H
theorem GX {l:List Oper} {plan:List (Nat×Pk)} {R:List Nat} {pend:Pd} {n i:Nat} {E E':Tr CV} {h h':Tr CB} {nx nx':Nat} {o:Oper} {c:CV} {r:Res} (hl:Br l i=some o) (hq:wN P l R n (sF l R E) h nx=true) (hw:wm P (sF l R E) h nx o.op=.val c h' nx') (hp:vX (sF l R E) n o.dst c=some E')
 (H:rL P Φ (.reg l plan (rY o pend) n E' h' nx') r):rL P Φ (.reg l ((i,.make R) :: plan) pend n E h nx) r:=by
 refine Xl H l _ pend n E h nx ?_
 show Di P [] _ l ((i,.make R) :: plan) pend n E h nx=_
 unfold Di
 simp only [hl,hq,fT,hw,hp]
 exact wC _ _
theorem Dn {ih:Cmd→Res} (H:Up P Φ ih) (l:List Oper) (n:Nat):∀ (plan:List (Nat×Pk)) (pend:Pd) (E:Tr CV) (h:Tr CB) (nx:Nat),Et ((Ke P pr n l plan).run ih pend E h nx) (fun E' h' nx'=>rL P Φ (.reg l plan pend n E h nx) (.ok .normal E' h' nx'))
 | [],pend,E,h,nx=>.inr ⟨E,h,nx,fun k=>rfl,yF (pr:=[]) (xR (P:=P) (Φ:=Φ)) l [] pend n E h nx⟩
 | (i,lk) :: plan,pend,E,h,nx=>by
   show Et ((match Br l i with
    | some o=>(match o.guard with
      | none=>(match Ur n o.dst with
        | some p=>((match lk with
          | .look=>⟨fun ih pend E h nx k=>Option.rec (motive:=fun _=>Res) (.bad 26 [o]) (fun c=>(Ke P pr n l plan).run ih (Sm o i nx E pend) (p.run c E) h nx k) (qv P E h o.op)⟩
          | .only=>⟨fun ih pend E h nx k=>(HI P pr o n).run ih E h nx (fun E h nx=>bif vP h (rY o pend) then (Ke P pr n l plan).run ih (rY o pend) E h nx k else .bad 28 [o])⟩
          | .race R=>⟨fun ih pend E h nx k=>bif wN P l R n (sF l R E) h nx then (HI P pr o n).run ih (sF l R E) h nx (fun E h nx=>bif vP h (rY o pend) then (Ke P pr n l plan).run ih (rY o pend) E h nx k else .bad 28 [o]) else .bad 32 [o]⟩
          | .make R=>⟨fun ih pend E h nx k=>bif wN P l R n (sF l R E) h nx then (match wm P (sF l R E) h nx o.op with | .val c h nx=>(Ke P pr n l plan).run ih (rY o pend) (p.run c (sF l R E)) h nx k | _=>.bad 34 [o]) else .bad 35 [o]⟩):Cr)
        | none=>⟨fun _ _ _ _ _ _=>.bad 25 [o]⟩)
      | some _=>⟨fun _ _ _ _ _ _=>.bad 30 [o]⟩)
    | none=>⟨fun _ _ _ _ _ _=>.bad 31 []⟩).run ih pend E h nx) _
   cases hl:Br l i with
   | none=>exact .inl ⟨31,[],fun k=>rfl⟩
   | some o =>
     simp only
     cases hg:o.guard with
     | some g=>exact .inl ⟨30,[o],fun k=>rfl⟩
     | none =>
       simp only
       cases hp:Ur n o.dst with
       | none=>exact .inl ⟨25,[o],fun k=>rfl⟩
       | some p =>
         simp only
         cases lk with
         | look =>
           show Et (fun k=>Option.rec (motive:=fun _=>Res) (.bad 26 [o]) (fun c=>(Ke P pr n l plan).run ih (Sm o i nx E pend) (p.run c E) h nx k) (qv P E h o.op)) _
           cases hq:qv P E h o.op with
           | none=>exact .inl ⟨26,[o],fun k=>rfl⟩
           | some c =>
             rcases Dn H l n plan (Sm o i nx E pend) (p.run c E) h nx with ⟨w,a,hb⟩ | ⟨E2,h2,nx2,hk,hd⟩
             · exact .inl ⟨w,a,fun k=>hb k⟩
             · exact .inr ⟨E2,h2,nx2,fun k=>hk k,GV hl hg hq (Hf hp E c) hd⟩
         | only =>
           show Et (fun k=>(HI P pr o n).run ih E h nx (fun E h nx=>bif vP h (rY o pend) then (Ke P pr n l plan).run ih (rY o pend) E h nx k else .bad 28 [o])) _
           rcases Us (pr:=pr) o n ih H E h nx with ⟨w,a,hb⟩ | ⟨E1,h1,nx1,hk1,hd1⟩
           · exact .inl ⟨w,a,fun k=>hb _⟩
           · cases hkp:vP h1 (rY o pend) with
             | false=>exact .inl ⟨28,[o],fun k=>(hk1 _).trans (by rw [hkp];rfl)⟩
             | true =>
               rcases Dn H l n plan (rY o pend) E1 h1 nx1 with ⟨w,a,hb⟩ | ⟨E2,h2,nx2,hk,hd⟩
               · exact .inl ⟨w,a,fun k=>(hk1 _).trans (by rw [hkp];exact hb k)⟩
               · exact .inr ⟨E2,h2,nx2,fun k=>(hk1 _).trans (by rw [hkp];exact hk k),AT hl hg hd1 hkp hd⟩
         | race R =>
           show Et (fun k=>bif wN P l R n (sF l R E) h nx then (HI P pr o n).run ih (sF l R E) h nx (fun E h nx=>bif vP h (rY o pend) then (Ke P pr n l plan).run ih (rY o pend) E h nx k else .bad 28 [o]) else .bad 32 [o]) _
           cases hq:wN P l R n (sF l R E) h nx with
           | false=>exact .inl ⟨32,[o],fun k=>rfl⟩
           | true =>
             simp only [fT]
             rcases Us (pr:=pr) o n ih H (sF l R E) h nx with ⟨w,a,hb⟩ | ⟨E1,h1,nx1,hk1,hd1⟩
             · exact .inl ⟨w,a,fun k=>hb _⟩
             · cases hkp:vP h1 (rY o pend) with
               | false=>exact .inl ⟨28,[o],fun k=>(hk1 _).trans (by rw [hkp];rfl)⟩
               | true =>
                 rcases Dn H l n plan (rY o pend) E1 h1 nx1 with ⟨w,a,hb⟩ | ⟨E2,h2,nx2,hk,hd⟩
                 · exact .inl ⟨w,a,fun k=>(hk1 _).trans (by rw [hkp];exact hb k)⟩
                 · exact .inr ⟨E2,h2,nx2,fun k=>(hk1 _).trans (by rw [hkp];exact hk k),GW hl hq hd1 hkp hd⟩
         | make R =>
           show Et (fun k=>bif wN P l R n (sF l R E) h nx then (match wm P (sF l R E) h nx o.op with | .val c h nx=>(Ke P pr n l plan).run ih (rY o pend) (p.run c (sF l R E)) h nx k | _=>.bad 34 [o]) else .bad 35 [o]) _
           cases hq:wN P l R n (sF l R E) h nx with
           | false=>exact .inl ⟨35,[o],fun k=>rfl⟩
           | true =>
             simp only [fT]
             cases hw:wm P (sF l R E) h nx o.op with
             | bad=>exact .inl ⟨34,[o],fun k=>rfl⟩
             | unit _ _=>exact .inl ⟨34,[o],fun k=>rfl⟩
             | val c h1 nx1 =>
               rcases Dn H l n plan (rY o pend) (p.run c (sF l R E)) h1 nx1 with ⟨w,a,hb⟩ | ⟨E2,h2,nx2,hk,hd⟩
               · exact .inl ⟨w,a,fun k=>hb k⟩
               exact .inr ⟨E2,h2,nx2,fun k=>hk k,GX hl hq hw (Hf hp _ c) hd⟩
end
def RH (c:Cd) (F:Nat):(Cmd→Res)→Tr CV→Tr CB→Nat→Kx→Res:=
 Nat.rec (motive:=fun _=>(Cmd→Res)→Tr CV→Tr CB→Nat→Kx→Res) (fun _ _ _ _ _=>.bad 0 []) (fun _ r ih E h nx k=>c.run ih E h nx (fun x E h nx=>match x with | .normal=>r ih E h nx k | x=>k x E h nx)) F
def yW (P:Program) (pr:sY) (LF:Nat) (n:Nat) (c:Code):Cd:=Code.rec (motive:=fun _=>Cd) ⟨fun _ E h nx k=>k .normal E h nx⟩
 (fun id ops draw=>bif not draw && (ops.toList.all sM && Eu ops.toList) then ⟨fun ih E h nx k=>KK (KM P pr n ops.toList) ih E h nx (fun E h nx=>k .normal E h nx)⟩ else bif draw && (P.follows .mixedOrders && Eu ops.toList) then (match Jq ops.toList with | some p=>⟨fun ih E h nx k=>(Ke P pr n ops.toList p).run ih [] E h nx (fun E h nx=>k .normal E h nx)⟩ | none=>Sk P pr (.region id ops draw) n) else Sk P pr (.region id ops draw) n)
 (fun _ _ a b=>⟨fun ih E h nx k=>a.run ih E h nx (fun x E h nx=>match x with | .normal=>b.run ih E h nx k | x=>k x E h nx)⟩)
 (fun c _ _ a b=>⟨fun ih E h nx k=>match (Ox c).run E with | some (.bool t)=>bif t then a.run ih E h nx k else b.run ih E h nx k | _=>.bad 1 []⟩)
 (fun id _ c=>⟨fun ih E h nx k=>c.run ih E h nx (fun x E h nx=>match x with | .exit id'=>bif Nat.beq id' id then k .normal E h nx else k (.exit id') E h nx | x=>k x E h nx)⟩)
 (fun _ c=>⟨fun ih E h nx k=>RH c LF ih E h nx k⟩)
 (fun g ps asg body _ _=>Sk P pr (.rangeFunc g ps asg body) n)
 (fun id=>⟨fun _ E h nx k=>k (.exit id) E h nx⟩)
 (fun _ c=>⟨fun ih E h nx k=>c.run ih E h nx (fun x E h nx=>match x with | .normal=>k .normal E h nx | .ret=>k .ret E h nx | .exit id=>k (.exit id) E h nx | _=>.bad 22 [])⟩)
 (fun _=>⟨fun _ E h nx k=>k .normal E h nx⟩)
 (fun l=>Sk P pr (.goto l) n)
 ⟨fun _ E h nx k=>k .ret E h nx⟩
 (fun s=>Sk P pr (.refuse s) n) c
section
variable {P:Program} {Φ:Imm→Prop} {pr:sY}
def NR (id:Nat) (x:Exit) (E:Tr CV) (h:Tr CB) (nx:Nat):Res:=match x with | .exit id'=>bif Nat.beq id' id then .ok .normal E h nx else .ok (.exit id') E h nx | x=>.ok x E h nx
def WL (x:Exit) (E:Tr CV) (h:Tr CB) (nx:Nat):Res:=match x with | .normal=>.ok .normal E h nx | .ret=>.ok .ret E h nx | .exit id=>.ok (.exit id) E h nx | _=>.bad 22 []
section rules
variable {a b c:Code} {n:Nat} {E E1 E2:Tr CV} {h h1 h2:Tr CB} {nx nx1 nx2:Nat} {x:Exit} {r:Res}
theorem GY (H1:rL P Φ (.code a n E h nx) (.ok .normal E1 h1 nx1)) (H2:rL P Φ (.code b n E1 h1 nx1) (.ok x E2 h2 nx2)):rL P Φ (.code (.seq a b) n E h nx) (.ok x E2 h2 nx2):=by
 intro r ρ w0 ac w hR hf hn hrr Q hQ
 refine wpIn_seq (H1 r ρ w0 ac w hR hf hn (hrr.imp id fun q=>(aB _ _▸(show (Pb a && Pb b)=true from q)).1) _ fun ρ' a' w' e1 e2=>?_)
 exact H2 r ρ' w0 a' w' e2 e1.fit hn (hrr.imp id fun q=>(aB _ _▸(show (Pb a && Pb b)=true from q)).2) Q fun ρ2 a2 w2 f1 f2=>hQ ρ2 a2 w2 (e1.trans hR.mem f1) f2
theorem xL {c':Cmd} (H:rL P Φ c' r) (n:Nat) (E:Tr CV) (h:Tr CB) (nx:Nat) (c:Code) (r':Res) (e:step P [] (Oy c' r) (.code c n E h nx)=r'):rL P Φ (.code c n E h nx) r':=by
 rw [←e];exact vY (Kd H) c n E h nx
theorem GZ (hx:x≠.normal) (H1:rL P Φ (.code a n E h nx) (.ok x E1 h1 nx1)):rL P Φ (.code (.seq a b) n E h nx) (.ok x E1 h1 nx1):=by
 refine xL H1 n E h nx _ _ ?_
 show NN P _ n E h nx a b=_
 unfold NN
 rw [wC]
 cases x <;> first | exact absurd rfl hx | rfl
theorem Sn {id:Nat} {l:List Oper} (hd:l.all sM=true) (H1:rL P Φ (.ops l l n E h nx) r):rL P Φ (.code (.region id ⟨l⟩ false) n E h nx) r:=by
 refine xL H1 n E h nx _ _ ?_
 show (bif l.all sM then Oy (.ops l l n E h nx) r (.ops l l n E h nx) else Res.bad 2 [])=_
 rw [hd]
 exact wC _ _
theorem AU {id:Nat} {l:List Oper} {p:List (Nat×Pk)} (hf:P.follows .mixedOrders=true) (hp:Jq l=some p) (H1:rL P Φ (.reg l p [] n E h nx) r):rL P Φ (.code (.region id ⟨l⟩ true) n E h nx) r:=by
 refine xL H1 n E h nx _ _ ?_
 show GK P _ n E h nx l=_
 unfold GK
 rw [hf,hp]
 exact wC _ _
theorem Mz {o:Operand} {t:Bool} (ht:sU E o=some (.bool t)) (H1:rL P Φ (.code (bif t then a else b) n E h nx) r):rL P Φ (.code (.cond o a b) n E h nx) r:=by
 refine xL H1 n E h nx _ _ ?_
 show (match sU E o with
  | some (.bool t)=>Oy _ r (.code (bif t then a else b) n E h nx)
  | _=>Res.bad 1 [])=_
 rw [ht]
 exact wC _ _
theorem Ut {id:Nat} (H1:rL P Φ (.code c n E h nx) (.ok x E1 h1 nx1)):rL P Φ (.code (.block id c) n E h nx) (NR id x E1 h1 nx1):=by
 refine xL H1 n E h nx _ _ ?_
 show NO P _ n E h nx id c=_
 unfold NO
 rw [wC]
 cases x <;> rfl
theorem Uu (H1:rL P Φ (.code c n E h nx) (.ok x E1 h1 nx1)):rL P Φ (.code (.scope c) n E h nx) (WL x E1 h1 nx1):=by
 refine xL H1 n E h nx _ _ ?_
 show NP P _ n E h nx c=_
 unfold NP
 rw [wC]
 cases x <;> rfl
theorem AV (H1:rL P Φ (.loop c n E h nx) r):rL P Φ (.code (.loop c) n E h nx) r:=xL H1 n E h nx _ _ (wC _ _)
theorem AW (H1:rL P Φ (.code c n E h nx) (.ok .normal E1 h1 nx1)) (H2:rL P Φ (.loop c n E1 h1 nx1) r):rL P Φ (.loop c n E h nx) r:=by
 have H:=step_loop (pr:=[]) (Dm H1 H2) c n E h nx
 have e:step P [] (Li (.code c n E h nx) (.ok .normal E1 h1 nx1) (.loop c n E1 h1 nx1) r) (.loop c n E h nx)=r:=by
  show Sb P [] _ c n E h nx=_
  unfold Sb
  rw [Oz]
  exact Pa Ew _ _
 rw [e] at H
 exact H
theorem HA (hx:x≠.normal) (H1:rL P Φ (.code c n E h nx) (.ok x E1 h1 nx1)):rL P Φ (.loop c n E h nx) (.ok x E1 h1 nx1):=by
 have H:=step_loop (pr:=[]) (Kd H1) c n E h nx
 have e:step P [] (Oy (.code c n E h nx) (.ok x E1 h1 nx1)) (.loop c n E h nx)=.ok x E1 h1 nx1:=by
  show Sb P [] _ c n E h nx=_
  unfold Sb
  rw [wC]
  cases x <;> first | exact absurd rfl hx | rfl
 rw [e] at H
 exact H
end rules
theorem HB {cd:Cd} {c:Code} {n:Nat} (H:AQ P Φ cd c n) {ih:Cmd→Res} (hi:Up P Φ ih):∀ (F:Nat) (E:Tr CV) (h:Tr CB) (nx:Nat),Kb (RH cd F ih E h nx) (fun x E' h' nx'=>rL P Φ (.loop c n E h nx) (.ok x E' h' nx'))
 | 0,E,h,nx=>.inl ⟨0,[],fun k=>rfl⟩
 | F+1,E,h,nx=>by
   show Kb (fun k=>cd.run ih E h nx (fun x E h nx=>match x with | .normal=>RH cd F ih E h nx k | x=>k x E h nx)) _
   rcases H ih hi E h nx with ⟨w,a,hb⟩ | ⟨x,E1,h1,nx1,hk,hd⟩
   · exact .inl ⟨w,a,fun k=>hb _⟩
   have pass:x≠.normal→Kb (fun k=>cd.run ih E h nx (fun x E h nx=>match x with | .normal=>RH cd F ih E h nx k | x=>k x E h nx)) (fun x E' h' nx'=>rL P Φ (.loop c n E h nx) (.ok x E' h' nx')):=fun hx =>
    .inr ⟨x,E1,h1,nx1,fun k=>(hk _).trans (by cases x <;> first | exact absurd rfl hx | rfl),HA hx hd⟩
   cases x with
   | normal =>
     rcases HB H hi F E1 h1 nx1 with ⟨w,a,hb⟩ | ⟨x2,E2,h2,nx2,hk2,hd2⟩
     · exact .inl ⟨w,a,fun k=>(hk _).trans (hb k)⟩
     · exact .inr ⟨x2,E2,h2,nx2,fun k=>(hk _).trans (hk2 k),AW hd hd2⟩
   | _=>exact pass Ew
theorem HC (hpr:xK P Φ pr) (LF n:Nat) (c:Code):AQ P Φ (yW P pr LF n c) c n:=by
 induction c with
 | skip=>exact fun ih H E h nx=>.inr ⟨.normal,E,h,nx,fun k=>rfl,vY (pr:=[]) (xR (P:=P) (Φ:=Φ)) .skip n E h nx⟩
 | label l=>exact fun ih H E h nx=>.inr ⟨.normal,E,h,nx,fun k=>rfl,vY (pr:=[]) (xR (P:=P) (Φ:=Φ)) (.label l) n E h nx⟩
 | exit id=>exact fun ih H E h nx=>.inr ⟨.exit id,E,h,nx,fun k=>rfl,vY (pr:=[]) (xR (P:=P) (Φ:=Φ)) (.exit id) n E h nx⟩
 | ret=>exact fun ih H E h nx=>.inr ⟨.ret,E,h,nx,fun k=>rfl,vY (pr:=[]) (xR (P:=P) (Φ:=Φ)) .ret n E h nx⟩
 | goto l=>exact Dl hpr (.goto l) n
 | refuse s=>exact Dl hpr (.refuse s) n
 | rangeFunc g ps asg body _ _=>exact Dl hpr (.rangeFunc g ps asg body) n
 | region id ops draw =>
   show AQ P Φ (bif not draw && (ops.toList.all sM && Eu ops.toList) then ⟨fun ih E h nx k=>KK (KM P pr n ops.toList) ih E h nx (fun E h nx=>k .normal E h nx)⟩ else bif draw && (P.follows .mixedOrders && Eu ops.toList) then (match Jq ops.toList with | some p=>⟨fun ih E h nx k=>(Ke P pr n ops.toList p).run ih [] E h nx (fun E h nx=>k .normal E h nx)⟩ | none=>Sk P pr (.region id ops draw) n) else Sk P pr (.region id ops draw) n) (.region id ops draw) n
   refine rN (fun d=>AQ P Φ d (.region id ops draw) n) (fun hb=>?_) fun _=>rN (fun d=>AQ P Φ d (.region id ops draw) n) (fun hb=>?_) fun _=>Dl hpr (.region id ops draw) n
   rotate_left
   · simp only [aB] at hb
     obtain ⟨hb1,hb2,hb3⟩:=hb
     obtain ⟨l⟩:=ops
     cases draw with
     | false=>cases hb1
     | true =>
       split
       · rename_i p hp
         intro ih H E h nx
         rcases Dn H l n p [] E h nx with ⟨w,a,hb⟩ | ⟨E2,h2,nx2,hk,hd⟩
         · exact .inl ⟨w,a,fun k=>hb _⟩
         exact .inr ⟨.normal,E2,h2,nx2,fun k=>hk _,AU hb2 hp hd⟩
       exact Dl hpr (.region id ⟨l⟩ true) n
   simp only [aB] at hb
   obtain ⟨hb1,hb2,hb3⟩:=hb
   intro ih H E h nx
   obtain ⟨l⟩:=ops
   cases draw with
   | true=>cases hb1
   | false =>
     rcases Xk H l n l E h nx hb3 with ⟨w,a,hb⟩ | ⟨E2,h2,nx2,hk,hd⟩
     · exact .inl ⟨w,a,fun k=>hb _⟩
     · exact .inr ⟨.normal,E2,h2,nx2,fun k=>hk _,Sn hb2 hd⟩
 | seq a b iha ihb =>
   intro ih H E h nx
   show Kb (fun k=>(yW P pr LF n a).run ih E h nx (fun x E h nx=>match x with | .normal=>(yW P pr LF n b).run ih E h nx k | x=>k x E h nx)) _
   rcases iha ih H E h nx with ⟨w,ac,hb⟩ | ⟨x,E1,h1,nx1,hk,hd⟩
   · exact .inl ⟨w,ac,fun k=>hb _⟩
   · have pass:x≠.normal→Kb (fun k=>(yW P pr LF n a).run ih E h nx (fun x E h nx=>match x with | .normal=>(yW P pr LF n b).run ih E h nx k | x=>k x E h nx)) (fun x E' h' nx'=>rL P Φ (.code (.seq a b) n E h nx) (.ok x E' h' nx')):=fun hx =>
      .inr ⟨x,E1,h1,nx1,fun k=>(hk _).trans (by cases x <;> first | exact absurd rfl hx | rfl),GZ hx hd⟩
     cases x with
     | normal =>
       rcases ihb ih H E1 h1 nx1 with ⟨w,ac,hb⟩ | ⟨x2,E2,h2,nx2,hk2,hd2⟩
       · exact .inl ⟨w,ac,fun k=>(hk _).trans (hb k)⟩
       · exact .inr ⟨x2,E2,h2,nx2,fun k=>(hk _).trans (hk2 k),GY hd hd2⟩
     | _=>exact pass Ew
 | cond o a b iha ihb =>
   intro ih H E h nx
   show Kb (fun k=>match (Ox o).run E with | some (.bool t)=>bif t then (yW P pr LF n a).run ih E h nx k else (yW P pr LF n b).run ih E h nx k | _=>.bad 1 []) _
   rw [vK]
   split
   · rename_i t ht
     cases t with
     | true =>
       rcases iha ih H E h nx with ⟨w,ac,hb⟩ | ⟨x2,E2,h2,nx2,hk2,hd2⟩
       · exact .inl ⟨w,ac,fun k=>hb k⟩
       · exact .inr ⟨x2,E2,h2,nx2,fun k=>hk2 k,Mz ht hd2⟩
     | false =>
       rcases ihb ih H E h nx with ⟨w,ac,hb⟩ | ⟨x2,E2,h2,nx2,hk2,hd2⟩
       · exact .inl ⟨w,ac,fun k=>hb k⟩
       exact .inr ⟨x2,E2,h2,nx2,fun k=>hk2 k,Mz ht hd2⟩
   · exact .inl ⟨1,[],fun k=>rfl⟩
 | block id c ihc =>
   intro ih H E h nx
   show Kb (fun k=>(yW P pr LF n c).run ih E h nx (fun x E h nx=>match x with | .exit id'=>bif Nat.beq id' id then k .normal E h nx else k (.exit id') E h nx | x=>k x E h nx)) _
   rcases ihc ih H E h nx with ⟨w,ac,hb⟩ | ⟨x,E1,h1,nx1,hk,hd⟩
   · exact .inl ⟨w,ac,fun k=>hb _⟩
   · have hr:=Ut (id:=id) hd
     cases x with
     | exit id' =>
       cases hbq:Nat.beq id' id with
       | true =>
         simp only [NR,hbq,fT] at hr
         exact .inr ⟨.normal,E1,h1,nx1,fun k=>(hk _).trans (by simp only [hbq,fT]),hr⟩
       | false =>
         simp only [NR,hbq,lG] at hr
         exact .inr ⟨.exit id',E1,h1,nx1,fun k=>(hk _).trans (by simp only [hbq,lG]),hr⟩
     | normal=>exact .inr ⟨_,E1,h1,nx1,fun k=>hk _,hr⟩
     | ret=>exact .inr ⟨_,E1,h1,nx1,fun k=>hk _,hr⟩
     | goto l=>exact .inr ⟨_,E1,h1,nx1,fun k=>hk _,hr⟩
     | panic ch=>exact .inr ⟨_,E1,h1,nx1,fun k=>hk _,hr⟩
     | outgrown=>exact .inr ⟨_,E1,h1,nx1,fun k=>hk _,hr⟩
 | scope c ihc =>
   intro ih H E h nx
   show Kb (fun k=>(yW P pr LF n c).run ih E h nx (fun x E h nx=>match x with | .normal=>k .normal E h nx | .ret=>k .ret E h nx | .exit id=>k (.exit id) E h nx | _=>.bad 22 [])) _
   rcases ihc ih H E h nx with ⟨w,ac,hb⟩ | ⟨x,E1,h1,nx1,hk,hd⟩
   · exact .inl ⟨w,ac,fun k=>hb _⟩
   · have hr:=Uu hd
     cases x with
     | normal=>exact .inr ⟨_,E1,h1,nx1,fun k=>hk _,hr⟩
     | ret=>exact .inr ⟨_,E1,h1,nx1,fun k=>hk _,hr⟩
     | exit id=>exact .inr ⟨_,E1,h1,nx1,fun k=>hk _,hr⟩
     | _=>exact .inl ⟨22,[],fun k=>hk _⟩
 | loop c ihc =>
   intro ih H E h nx
   show Kb (fun k=>RH (yW P pr LF n c) LF ih E h nx k) _
   rcases HB ihc H LF E h nx with ⟨w,ac,hb⟩ | ⟨x,E1,h1,nx1,hk,hd⟩
   · exact .inl ⟨w,ac,fun k=>hb k⟩
   exact .inr ⟨x,E1,h1,nx1,fun k=>hk k,AV hd⟩
def NS (P:Program) (pr:sY) (LF:Nat) (ih:Cmd→Res):Cmd→Res
 | .code c n E h nx=>(yW P pr LF n c).run ih E h nx (fun x E h nx=>.ok x E h nx)
 | c=>ih c
theorem So (hpr:xK P Φ pr) (LF:Nat) {ih:Cmd→Res} (H:Up P Φ ih):Up P Φ (NS P pr LF ih):=fun c=>by
 cases c with
 | code c n E h nx =>
   show rL P Φ _ ((yW P pr LF n c).run ih E h nx (fun x E h nx=>.ok x E h nx))
   rcases HC hpr LF n c ih H E h nx with ⟨w,ac,hb⟩ | ⟨x,E1,h1,nx1,hk,hd⟩
   · rw [hb];exact zW _ _ _
   · rw [hk];exact hd
 | _=>exact H _
end
def WM (a b:Option Nat):Bool:=match a with
 | none=>(match b with | none=>true | some _=>false)
 | some x=>(match b with | none=>false | some y=>Nat.beq x y)
theorem NT {a b:Option Nat} (h:WM a b=true):a=b:=by
 cases a <;> cases b <;> first | rfl | (cases h;done) | (exact congrArg some (aD h))
def HD (a:CV):CV→Bool:=CV.rec (motive:=fun _=>CV→Bool)
 (fun k n b=>match b with | .int k' n'=>AX k k' && El n n' | _=>false)
 (fun x b=>match b with | .bool y=>NM x y | _=>false)
 (fun _ ih b=>match b with | .str s=>ih s | _=>false)
 (fun t o b=>match b with | .ptr t' o'=>Nat.beq t t' && Nat.beq o o' | _=>false)
 (fun b=>match b with | .nilp=>true | _=>false)
 (fun t o n sz c b=>match b with | .sl t' o' n' sz' c'=>Nat.beq t t' && (Nat.beq o o' && (Nat.beq n n' && (Nat.beq sz sz' && WM c c'))) | _=>false)
 (fun b=>match b with | .nils=>true | _=>false)
 (fun b=>match b with | .sle=>true | _=>false)
 (fun t b=>match b with | .mp t'=>Nat.beq t t' | _=>false)
 (fun b=>match b with | .nilm=>true | _=>false)
 (fun f _ _ i1 i2 b=>match b with | .fn f' x y=>Nat.beq f f' && (i1 x && i2 y) | _=>false)
 (fun b=>match b with | .nilf=>true | _=>false)
 (fun t b=>match b with | .yl t'=>Nat.beq t t' | _=>false)
 (fun _ ih b=>match b with | .agg l=>ih l | _=>false)
 (fun _ ih b=>match b with | .tup l=>ih l | _=>false)
 (fun b=>match b with | .nil=>true | _=>false)
 (fun _ _ i1 i2 b=>match b with | .cons x y=>i1 x && i2 y | _=>false) a
theorem Bq {a b:Nat} (h:Nat.beq a b=true):a=b:=aD h
theorem HE {a b:Bool} (h:NM a b=true):a=b:=by cases a <;> cases b <;> first | rfl | cases h
theorem Uv:∀ {a b:CV},HD a b=true→a=b:=by
 intro a
 induction a with
 | int k n =>
   intro b h
   cases b <;> first | (cases h;done) | skip
   rename_i k' n'
   have h':(AX k k' && El n n')=true:=h
   rw [aB] at h'
   rw [Dw h'.1,qK ((uR n n').symm.trans h'.2)]
 | bool x=>intro b h;cases b <;> first | (cases h;done) | (exact congrArg _ (HE h))
 | str s ih=>intro b h;cases b <;> first | (cases h;done) | (exact congrArg _ (ih h))
 | ptr t o =>
   intro b h
   cases b <;> first | (cases h;done) | skip
   rename_i t' o'
   have h':(Nat.beq t t' && Nat.beq o o')=true:=h
   rw [aB] at h'
   rw [Bq h'.1,Bq h'.2]
 | nilp=>intro b h;cases b <;> first | rfl | cases h
 | sl t o n sz c =>
   intro b h
   cases b <;> first | (cases h;done) | skip
   rename_i t' o' n' sz' c'
   have h':(Nat.beq t t' && (Nat.beq o o' && (Nat.beq n n' && (Nat.beq sz sz' && WM c c'))))=true:=h
   simp only [aB] at h'
   rw [Bq h'.1,Bq h'.2.1,Bq h'.2.2.1,Bq h'.2.2.2.1,NT h'.2.2.2.2]
 | nils=>intro b h;cases b <;> first | rfl | cases h
 | sle=>intro b h;cases b <;> first | rfl | cases h
 | mp t=>intro b h;cases b <;> first | (cases h;done) | (exact congrArg _ (Bq h))
 | nilm=>intro b h;cases b <;> first | rfl | cases h
 | fn f x y i1 i2 =>
   intro b h
   cases b <;> first | (cases h;done) | skip
   rename_i f' x' y'
   have h':(Nat.beq f f' && (HD x x' && HD y y'))=true:=h
   simp only [aB] at h'
   rw [Bq h'.1,i1 h'.2.1,i2 h'.2.2]
 | nilf=>intro b h;cases b <;> first | rfl | cases h
 | yl t=>intro b h;cases b <;> first | (cases h;done) | (exact congrArg _ (Bq h))
 | agg l ih=>intro b h;cases b <;> first | (cases h;done) | (exact congrArg _ (ih h))
 | tup l ih=>intro b h;cases b <;> first | (cases h;done) | (exact congrArg _ (ih h))
 | nil=>intro b h;cases b <;> first | rfl | cases h
 | cons x y i1 i2 =>
   intro b h
   cases b <;> first | (cases h;done) | skip
   rename_i x' y'
   have h':(HD x x' && HD y y')=true:=h
   rw [aB] at h'
   rw [i1 h'.1,i2 h'.2]
structure EB where
 t:Nat
 l:CV
 ty:Nat
 op:Bool
 ro:Bool
 st:Nat
def EB.cb (x:EB):CB:=bif x.ro then .ro (Kz x.l) x.ty x.st else .cells (Kz x.l) x.ty x.op x.st
def sS (h:Tr CB) (l:List EB):Tr CB:=List.rec h (fun x _ ih=>ih.set (some x.cb) rO x.t) l
def As (g:Bool) (h:Tr CB) (x:EB):Bool:=match h.get x.t with
 | some (.cells l ty op st)=>not x.ro && (Nat.beq l.n (sG x.l) && (HD (sO l 0 l.n) x.l && (Nat.beq ty x.ty && (NM op x.op && (not g || Nat.beq st x.st)))))
 | some (.ro l ty st)=>x.ro && (Nat.beq l.n (sG x.l) && (HD (sO l 0 l.n) x.l && (Nat.beq ty x.ty && (not g || Nat.beq st x.st))))
 | _=>false
theorem HF (x:EB):Og x.cb=x.st:=by
 unfold EB.cb
 cases x.ro <;> rfl
theorem yH {g:Bool} {h:Tr CB} {x:EB} (hx:As g h x=true):∃ b,h.get x.t=some b∧(g=true→Og b=x.st)∧∀ (nx:Nat) (ρ:Pl) (s:Nat) (o:Obj),DB nx ρ s b o→DB nx ρ s x.cb o:=by
 unfold As at hx
 have key:∀ {l:Rw},Nat.beq l.n (sG x.l)=true→HD (sO l 0 l.n) x.l=true→∀ {nx:Nat} {ρ:Pl} {vs:List Value},RL nx ρ l vs→RL nx ρ (Kz x.l) vs:=fun {l} h1 h2 {nx ρ vs} hr=>by
  have e1:=Uv h2
  have e2:=Bq h1
  have hl:sG (sO l 0 l.n)=l.n:=by rw [e1,←e2]
  have hk:=vV hr hl
  rw [e1,hr.1] at hk
  simp only [jE,gO] at hk
  exact Oj hk
 split at hx
 · rename_i l ty op st hb
   simp only [aB,dV] at hx
   obtain ⟨h1,h2,h3,h4,h5,h6⟩:=hx
   refine ⟨_,hb,fun hg=>?_,fun nx ρ s o hd=>?_⟩
   · subst hg;show st=x.st;simpa using h6
   unfold EB.cb
   rw [h1]
   obtain ⟨vs,junk,k1,k2,k3,k4⟩:=hd
   refine ⟨vs,junk,key h2 h3 k1,by rw [←Bq h4];exact k2,k3,fun ho=>k4 (by rw [HE h5];exact ho)⟩
 · rename_i l ty st hb
   simp only [aB] at hx
   obtain ⟨h1,h2,h3,h4,h6⟩:=hx
   refine ⟨_,hb,fun hg=>?_,fun nx ρ s o hd=>?_⟩
   · subst hg;show st=x.st;simpa using h6
   unfold EB.cb
   rw [h1]
   obtain ⟨vs,fz,k1,k2⟩:=hd
   exact ⟨vs,fz,key h2 h3 k1,by rw [←Bq h4];exact k2⟩
 cases hx
theorem uP (h:Tr CB):∀ {l:List EB},(∀ x∈l,x.t<rO)→∀ {t:Nat} {b:CB},(sS h l).get t=some b→(∃ x∈l,x.t=t∧x.cb=b)∨((∀ x∈l,x.t≠t)∧h.get t=some b)
 | [],_,t,b,hg=>.inr ⟨fun x hx=>(by cases hx),hg⟩
 | x :: l,hl,t,b,hg=>by
   have hg':((sS h l).set (some x.cb) rO x.t).get t=some b:=hg
   rw [eN _ _ _ _ _ (hl x (bL ..))] at hg'
   by_cases e:t=x.t
   · rw [aR e] at hg'
     cases hg'
     exact .inl ⟨x,bL ..,e.symm,rfl⟩
   rw [aK e] at hg'
   rcases uP h (fun y hy=>hl y (bB _ hy)) hg' with ⟨y,h1,h2⟩ | ⟨h1,h2⟩
   · exact .inl ⟨y,bB _ h1,h2⟩
   refine .inr ⟨fun y hy=>?_,h2⟩
   rcases dE.1 hy with rfl | hy
   · exact fun e2=>e e2.symm
   exact h1 y hy
theorem Ah (h:Tr CB):∀ {l:List EB},(∀ x∈l,x.t<rO)→∀ {t:Nat},((∃ x∈l,x.t=t)∨(∃ b,h.get t=some b))→∃ b,(sS h l).get t=some b
 | [],_,t,hg=>hg.elim (fun ⟨x,hx,_⟩=>by cases hx) id
 | x :: l,hl,t,hg=>by
   show ∃ b,((sS h l).set (some x.cb) rO x.t).get t=some b
   rw [eN _ _ _ _ _ (hl x (bL ..))]
   by_cases e:t=x.t
   · exact ⟨_,aR e⟩
   rw [aK e]
   refine Ah h (fun y hy=>hl y (bB _ hy)) (hg.imp ?_ id)
   rintro ⟨y,hy,h2⟩
   rcases dE.1 hy with rfl | hy
   · exact absurd h2.symm e
   exact ⟨y,hy,h2⟩
structure Ent where
 f:Nat
 nx:Nat
 args:CV
 hs:List EB
 v:CV
 news:List EB
 nx':Nat
def Xn (mm:List Ent) (f:Nat) (args:CV) (h:Tr CB) (nx:Nat):Option Ent:=
 List.rec none (fun e _ ih=>bif Nat.beq e.f f && (Nat.beq e.nx nx && (HD e.args args && Dg (As false h) e.hs)) then some e else ih) mm
def RJ (mm:List Ent) (c:Cmd) (r:Res):Res:=match c with
 | .call f args h nx=>(match Xn mm f args h nx with | some e=>.ret e.v (sS h e.news) e.nx' | none=>r)
 | _=>r
def KO (e:Ent):Bool:=Nat.ble e.nx e.nx' && (Nat.ble e.nx' rO && (Dg (fun x=>Nat.ble (Nat.succ x.t) e.nx && Nat.ble (Nat.succ x.st) e.nx) e.hs && Dg (fun x=>Nat.ble e.nx x.t && (Nat.ble (Nat.succ x.t) e.nx' && (Nat.ble e.nx x.st && Nat.ble (Nat.succ x.st) e.nx'))) e.news))
def yX (P:Program) (Φ:Imm→Prop) (e:Ent):Prop:=KO e=true∧rL P Φ (.call e.f e.args (sS .e e.hs) e.nx) (.ret e.v (sS (sS .e e.hs) e.news) e.nx')
def MemoOk (P:Program) (Φ:Imm→Prop) (mm:List Ent):Prop:=∀ e∈mm,yX P Φ e
section
variable {P:Program} {Φ:Imm→Prop} {pr:sY}
theorem Xo {e:Ent} (h:KO e=true):e.nx≤e.nx'∧e.nx'≤rO∧(∀ x∈e.hs,x.t<e.nx∧x.st<e.nx)∧∀ x∈e.news,e.nx≤x.t∧x.t<e.nx'∧e.nx≤x.st∧x.st<e.nx':=by
 unfold KO at h
 simp only [aB] at h
 refine ⟨rU h.1,rU h.2.1,fun x hx=>?_,fun x hx=>?_⟩
 · have:=uA.1 h.2.2.1 x hx
   rw [aB] at this
   exact ⟨rU this.1,rU this.2⟩
 have:=uA.1 h.2.2.2 x hx
 simp only [aB] at this
 exact ⟨rU this.1,rU this.2.1,rU this.2.2.1,rU this.2.2.2⟩
theorem HG {mm:List Ent} {f nx:Nat} {args:CV} {h:Tr CB} {e:Ent} (hl:Xn mm f args h nx=some e):e∈mm∧e.f=f∧e.nx=nx∧e.args=args∧∀ x∈e.hs,As false h x=true:=by
 induction mm with
 | nil=>cases hl
 | cons a mm ih =>
   have hl':(bif Nat.beq a.f f && (Nat.beq a.nx nx && (HD a.args args && Dg (As false h) a.hs)) then some a else Xn mm f args h nx)=some e:=hl
   rcases rK hl' with ⟨h1,h2⟩ | ⟨_,h2⟩
   · cases h2
     simp only [aB] at h1
     exact ⟨bL ..,Bq h1.1,Bq h1.2.1,Uv h1.2.2.1,fun x hx=>uA.1 h1.2.2.2 x hx⟩
   obtain ⟨k1,k2⟩:=ih h2
   exact ⟨bB _ k1,k2⟩
theorem Mem.part {ρ:Pl} {w0:Bas Φ} {h:Tr CB} {nx:Nat} {w:World} {hs:List EB} (hm:Mem ρ w0 h nx w) (hlt:∀ x∈hs,x.t<rO) (hst:∀ x∈hs,x.st<nx) (hhas:∀ x∈hs,As false h x=true):Mem ρ w0 (sS .e hs) nx w:=by
 have key:∀ {t b},(sS .e hs).get t=some b→∃ x∈hs,x.t=t∧x.cb=b:=fun hb=>(uP .e hlt hb).elim id fun h=>by cases h.2
 have old:∀ {t b},(sS .e hs).get t=some b→∃ c,h.get t=some c:=fun hb=>by
  obtain ⟨x,hx,rfl,_⟩:=key hb
  obtain ⟨c,h1,_⟩:=yH (hhas x hx)
  exact ⟨c,h1⟩
 refine ⟨hm.upd,fun t b hb=>?_,fun t t' b b' h1 h2 he=>?_,hm.imm,hm.nod,fun c hc=>⟨(hm.kept c hc).1,(hm.kept c hc).2.1,fun t b hb=>?_⟩⟩
 · obtain ⟨x,hx,rfl,rfl⟩:=key hb
   obtain ⟨c,h1,_,h3⟩:=yH (hhas x hx)
   obtain ⟨q1,q2,q3,o,q4,q5⟩:=hm.own _ _ h1
   exact ⟨q1,by rw [HF];exact hst x hx,q3,o,q4,h3 _ _ _ _ q5⟩
 · obtain ⟨c,k1⟩:=old h1
   obtain ⟨c',k2⟩:=old h2
   exact hm.one _ _ _ _ k1 k2 he
 obtain ⟨c',k1⟩:=old hb
 exact (hm.kept c hc).2.2 _ _ k1
theorem KP {mm:List Ent} (hmm:MemoOk P Φ mm) {c:Cmd} {r:Res} (hr:rL P Φ c r):rL P Φ c (RJ mm c r):=by
 cases c with
 | call f args h nx =>
   show rL P Φ _ (match Xn mm f args h nx with | some e=>.ret e.v (sS h e.news) e.nx' | none=>r)
   split
   · rename_i e he
     obtain ⟨h1,rfl,rfl,rfl,h2⟩:=HG he
     obtain ⟨hb,hf,hd⟩:=hmm e h1
     obtain ⟨b1,b2,b3,b4⟩:=Xo hb
     refine ⟨hf,fun ρ w0 w vs hm hk hfit=>?_⟩
     have hlt:∀ x∈e.hs,x.t<rO:=fun x hx=>bN (b3 x hx).1 (aP b1 b2)
     have hlt':∀ x∈e.news,x.t<rO:=fun x hx=>bN (b4 x hx).2.1 b2
     have m0:=hm.part hlt (fun x hx=>(b3 x hx).2) h2
     refine (hd ρ w0 w vs m0 hk hfit).mono fun ex w' ⟨u,ρ',e1,e2,e3,e4⟩=>⟨u,ρ',e1,?_,e3,?_⟩
     all_goals
      have g0:∀ {t b},(sS .e e.hs).get t=some b→∃ c,h.get t=some c∧t<e.nx:=fun hb=>by
       obtain ⟨x,hx,rfl,_⟩:=(uP .e hlt hb).elim id fun h=>by cases h.2
       obtain ⟨c,k1,_⟩:=yH (h2 x hx)
       exact ⟨c,k1,(b3 x hx).1⟩
      have unl:∀ {t b},h.get t=some b→(∀ x∈e.hs,x.t≠t)→w'.heap[(ρ t).1]?=w.heap[(ρ t).1]?:=fun {t b} hb hn=>by
       refine e2.old.fr _ (hm.lt hb) (fun t' b' hb' he'=>?_) id
       obtain ⟨x,hx,rfl,_⟩:=(uP .e hlt hb').elim id fun h=>by cases h.2
       obtain ⟨c,k1,_⟩:=g0 hb'
       exact hn x hx (hm.one _ _ _ _ k1 hb he')
      have same:∀ {t b},h.get t=some b→w'.heap[(ρ t).1]?=w.heap[(ρ t).1]?:=fun {t b} hb=>by
       by_cases hin:∃ x∈e.hs,x.t=t
       · obtain ⟨b0,hb0⟩:=Ah (.e:Tr CB) hlt (.inl hin)
         obtain ⟨b1',hb1⟩:=Ah (sS .e e.hs) hlt' (.inr ⟨b0,hb0⟩)
         have htn:t<e.nx:=(hm.own t b hb).1
         rcases uP (sS .e e.hs) hlt' hb1 with ⟨y,hy,hyt,_⟩ | ⟨_,k2⟩
         · have:=(b4 y hy).1;omega
         obtain ⟨x,hx,hxt,hxc⟩:=(uP .e hlt k2).elim id fun h=>by cases h.2
         exact (e2.old.old t b1' hb1 (by rw [←hxc,HF];exact (b3 x hx).2)).2
       exact unl hb fun x hx hxt=>hin ⟨x,hx,hxt⟩
      have cases2:∀ {t b},(sS h e.news).get t=some b→(e.nx≤t∧(sS (sS .e e.hs) e.news).get t=some b∧e.nx≤Og b∧Og b<e.nx')∨(t<e.nx∧h.get t=some b):=fun {t b} hb=>by
       rcases uP h hlt' hb with ⟨x,hx,hxt,hxc⟩ | ⟨_,k2⟩
       · refine .inl ⟨by rw [←hxt];exact (b4 x hx).1,?_,by rw [←hxc,HF];exact (b4 x hx).2.2⟩
         have hn0:(sS .e e.hs).get t=none:=by
          cases hg:(sS (.e:Tr CB) e.hs).get t with
          | none=>rfl
          | some c=>obtain ⟨_,_,q⟩:=g0 hg;have:=(b4 x hx).1;omega
         -- the same list on another memory
         have My:∀ (l:List EB),(∀ x∈l,x.t<rO)→∀ {b},(sS h l).get t=some b→(∃ x∈l,x.t=t)→(sS (sS .e e.hs) l).get t=some b:=fun l=>by
          induction l with
          | nil=>intro _ b _ hx;obtain ⟨x,hx,_⟩:=hx;cases hx
          | cons y l ih =>
            intro hl b hb hx
            have hb':((sS h l).set (some y.cb) rO y.t).get t=some b:=hb
            show ((sS (sS .e e.hs) l).set (some y.cb) rO y.t).get t=some b
            rw [eN _ _ _ _ _ (hl y (bL ..))] at hb' ⊢
            by_cases e:t=y.t
            · rw [aR e] at hb' ⊢;exact hb'
            rw [aK e] at hb' ⊢
            obtain ⟨x,hx,hxt⟩:=hx
            rcases dE.1 hx with rfl | hx
            · exact absurd hxt.symm e
            exact ih (fun z hz=>hl z (bB _ hz)) hb' ⟨x,hx,hxt⟩
         exact My e.news hlt' hb ⟨x,hx,hxt⟩
       exact .inr ⟨(hm.own t b k2).1,k2⟩
     · refine ⟨e2.le,e2.fit,e2.ext,fun t b hb hs=>?_,fun p hp hun hx=>e2.old.fr p hp (fun t b hb he'=>?_) hx,fun t b hb=>?_,e2.old.sz⟩
       · rcases cases2 hb with ⟨_,_,k3,_⟩ | ⟨_,k2⟩
         · omega
         exact ⟨k2,same k2⟩
       · obtain ⟨c,k1,_⟩:=g0 hb
         exact hun t c k1 he'
       rcases cases2 hb with ⟨_,k2,_⟩ | ⟨k1,k2⟩
       · rcases e2.old.nw t b k2 with k3 | ⟨t',b',k3,k4⟩
         · exact .inl k3
         obtain ⟨c,k5,_⟩:=g0 k3
         exact .inr ⟨t',c,k5,k4⟩
       exact .inr ⟨t,b,k2,by rw [e2.ext t k1]⟩
     have place:∀ {t b},(sS (sS .e e.hs) e.news).get t=some b→e.nx≤t→∀ t' b',h.get t'=some b'→(ρ' t).1≠(ρ t').1:=fun {t b} hb htn t' b' hb' he'=>by
      rcases e2.old.nw t b hb with k3 | ⟨t2,b2,k3,k4⟩
      · have:=hm.lt hb';omega
      obtain ⟨c,k5,k6⟩:=g0 k3
      obtain ⟨b3',k7⟩:=Ah (sS .e e.hs) hlt' (.inr ⟨b2,k3⟩)
      have:=e4.one t t2 _ _ hb k7 (by rw [e2.ext t2 k6];exact k4.symm)
      omega
     refine ⟨e4.upd,fun t b hb=>?_,fun t t' b b' hb hb' he'=>?_,e4.imm,e4.nod,fun c hc=>⟨(e4.kept c hc).1,(e4.kept c hc).2.1,fun t b hb=>?_⟩⟩
     · rcases cases2 hb with ⟨_,k2,_⟩ | ⟨k1,k2⟩
       · exact e4.own t b k2
       obtain ⟨q1,q2,q3,o,q4,q5⟩:=hm.own t b k2
       rw [e2.ext t k1]
       exact ⟨bN q1 e2.le,bN q2 e2.le,q3,o,(same k2).trans q4,q5.up e2.le e2.ext⟩
     · rcases cases2 hb with ⟨j1,k2,_⟩ | ⟨k1,k2⟩ <;> rcases cases2 hb' with ⟨j1',k2',_⟩ | ⟨k1',k2'⟩
       · exact e4.one t t' b b' k2 k2' he'
       · rw [e2.ext t' k1'] at he'
         exact absurd he' (place k2 j1 t' b' k2')
       · rw [e2.ext t k1] at he'
         exact absurd he'.symm (place k2' j1' t b k2)
       rw [e2.ext t k1,e2.ext t' k1'] at he'
       exact hm.one t t' b b' k2 k2' he'
     rcases cases2 hb with ⟨_,k2,_⟩ | ⟨k1,k2⟩
     · exact (e4.kept c hc).2.2 t b k2
     rw [e2.ext t k1];exact (hm.kept c hc).2.2 t b k2
   · exact hr
 | _=>exact hr
def NU (P:Program) (pr:sY) (mm:List Ent) (F:Nat):Cmd→Res:=Nat.rec (motive:=fun _=>Cmd→Res) (fun _=>.bad 0 []) (fun _ r c=>RJ mm c (step P pr (NS P pr 1000000 r) c)) F
theorem Sp (hpr:xK P Φ pr) {mm:List Ent} (hmm:MemoOk P Φ mm) (F:Nat):Up P Φ (NU P pr mm F):=by
 induction F with
 | zero=>exact fun c=>zW c 0 []
 | succ F r=>exact fun c=>KP hmm (Kc hpr (So hpr _ r) c)
def NV (P:Program) (pr:sY) (mm:List Ent) (F:Nat) (c:Cmd):Res:=step P pr (NS P pr 1000000 (NU P pr mm F)) c
def RK (e:Ent) (r:Res):Bool:=KO e && (match r with
 | .ret v h nx=>HD v e.v && (Nat.beq nx e.nx' && (Dg (As true h) e.hs && Dg (As false h) e.news))
 | _=>false)
theorem vL (hpr:xK P Φ pr) {mm:List Ent} (hmm:MemoOk P Φ mm) (F:Nat) (e:Ent) (h:RK e (NV P pr mm F (.call e.f e.args (sS .e e.hs) e.nx))=true):yX P Φ e:=by
 have H:rL P Φ (.call e.f e.args (sS .e e.hs) e.nx) (NV P pr mm F (.call e.f e.args (sS .e e.hs) e.nx)):=Kc hpr (So hpr _ (Sp hpr hmm F)) _
 unfold RK at h
 rw [aB] at h
 obtain ⟨hb,h⟩:=h
 refine ⟨hb,?_⟩
 obtain ⟨b1,b2,b3,b4⟩:=Xo hb
 revert H h
 generalize NV P pr mm F (.call e.f e.args (sS .e e.hs) e.nx)=r
 intro H h
 cases r with
 | bad=>cases h
 | ok=>cases h
 | ret v h' nx' =>
   simp only [aB] at h
   obtain ⟨h1,h2,h3,h4⟩:=h
   have e1:=Uv h1
   have e2:=Bq h2
   subst e1 e2
   refine ⟨H.1,fun ρ w0 w vs hm hk hfit=>(H.2 ρ w0 w vs hm hk hfit).mono fun ex w' ⟨u,ρ',k1,k2,k3,k4⟩=>⟨u,ρ',k1,?_,k3,?_⟩⟩
   all_goals
    have hlt:∀ x∈e.hs,x.t<rO:=fun x hx=>bN (b3 x hx).1 (aP b1 b2)
    have hlt':∀ x∈e.news,x.t<rO:=fun x hx=>bN (b4 x hx).2.1 b2
    have key:∀ {t b},(sS (sS .e e.hs) e.news).get t=some b→∃ x:EB,x.t=t∧x.cb=b∧((x∈e.news∧As false h' x=true)∨(x∈e.hs∧As true h' x=true∧(sS .e e.hs).get t=some b)):=fun {t b} hb=>by
     rcases uP (sS .e e.hs) hlt' hb with ⟨x,hx,hxt,hxc⟩ | ⟨_,q⟩
     · exact ⟨x,hxt,hxc,.inl ⟨hx,uA.1 h4 x hx⟩⟩
     obtain ⟨x,hx,hxt,hxc⟩:=(uP .e hlt q).elim id fun h=>by cases h.2
     exact ⟨x,hxt,hxc,.inr ⟨hx,uA.1 h3 x hx,q⟩⟩
    have has:∀ {t b},(sS (sS .e e.hs) e.news).get t=some b→∃ c,h'.get t=some c∧∀ (s:Nat) (o:Obj),DB e.nx' ρ' s c o→DB e.nx' ρ' s b o:=fun {t b} hb=>by
     obtain ⟨x,rfl,rfl,q⟩:=key hb
     rcases q with ⟨_,q⟩ | ⟨_,q,_⟩
     · obtain ⟨c,q1,_,q2⟩:=yH q;exact ⟨c,q1,q2 _ _⟩
     obtain ⟨c,q1,_,q2⟩:=yH q;exact ⟨c,q1,q2 _ _⟩
   · refine ⟨k2.le,k2.fit,k2.ext,fun t b hb hs=>?_,k2.old.fr,fun t b hb=>?_,k2.old.sz⟩
     · obtain ⟨x,rfl,rfl,q⟩:=key hb
       rw [HF] at hs
       rcases q with ⟨q,_⟩ | ⟨q0,q,q3⟩
       · have:=(b4 x q).2.2.1;omega
       obtain ⟨c,q1,q2,_⟩:=yH q
       exact ⟨q3,(k2.old.old x.t c q1 (by rw [q2 rfl];exact hs)).2⟩
     obtain ⟨c,q1,_⟩:=has hb
     exact k2.old.nw t c q1
   refine ⟨k4.upd,fun t b hb=>?_,fun t t' b b' hb hb' he'=>?_,k4.imm,k4.nod,fun c hc=>⟨(k4.kept c hc).1,(k4.kept c hc).2.1,fun t b hb=>?_⟩⟩
   · obtain ⟨c,q1,q2⟩:=has hb
     obtain ⟨g1,g2,g3,o,g4,g5⟩:=k4.own t c q1
     refine ⟨g1,?_,g3,o,g4,q2 _ _ g5⟩
     obtain ⟨x,rfl,rfl,q⟩:=key hb
     rw [HF]
     rcases q with ⟨q,_⟩ | ⟨q,_⟩
     · exact (b4 x q).2.2.2
     have:=(b3 x q).2;omega
   · obtain ⟨c,q1,_⟩:=has hb
     obtain ⟨c',q1',_⟩:=has hb'
     exact k4.one t t' c c' q1 q1' he'
   obtain ⟨c',q1,_⟩:=has hb
   exact (k4.kept c hc).2.2 t c' q1
theorem MemoOk.nil:MemoOk P Φ []:=fun e h=>wW
abbrev jL:=@MemoOk.nil
theorem MemoOk.cons {e:Ent} {mm:List Ent} (h:yX P Φ e) (k:MemoOk P Φ mm):MemoOk P Φ (e :: mm):=fun x hx=>by
 rcases dE.1 hx with rfl | hx
 · exact h
 exact k x hx
abbrev jJ:=@MemoOk.cons
theorem Uw {f:Nat} (pr:sY) (hpr:xK P Φ pr) {mm:List Ent} (hmm:MemoOk P Φ mm) (F:Nat) (h:GN (NU P pr mm F (.call f .nil .e 0))=true) (G:Imm) (hG:Φ G):Does P f [] G [] (fun v G' Ho=>v=.bool true∧G'=G∧Ho=[]):=
 AP (Sp hpr hmm F _) h G hG
end
end Go.Sl.Ev
namespace Go.Proofs.YtngphgeghfdjbaaGreatDoor
open Go Go.Sl Go.Sl.Ev
section
set_option maxRecDepth 1000000
def WN (l:CV):Option CV:=match l with
 | .cons (.int .u64 c) .nil=>bif El (Yn c) 0 then none else some (.int .i64 (Yn c))
 | _=>none
def tzP:sY:=[(269,WN)]
theorem At:xK Tryz.prog TabOk tzP:=by
 intro f g h
 have h':(bif Nat.beq 269 f then some WN else none)=some g:=h
 rcases rK h' with ⟨h1,h2⟩ | ⟨_,h2⟩
 · have:=aD h1
   subst this
   cases h2
   refine ⟨T.fn269,fun args v hv G hG nx ρ vs hk=>?_⟩
   unfold WN at hv
   split at hv
   · rename_i c
     rcases rK hv with ⟨_,h2⟩ | ⟨h1,h2⟩
     · cases h2
     cases h2
     rw [uR,dH] at h1
     obtain ⟨u,r,rfl,k1,k2⟩:=kC.1 hk.2
     have e1:=fY.1 k1
     have e2:=DL.nil.1 k2
     subst e1 e2
     exact ⟨_,vW,SP G hG c h1⟩
   cases hv
 cases h2
end
end Go.Proofs.YtngphgeghfdjbaaGreatDoor
end
