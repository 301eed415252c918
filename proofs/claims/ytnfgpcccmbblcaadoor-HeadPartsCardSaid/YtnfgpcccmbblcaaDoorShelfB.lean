/- The seat's shelf is one text: this one names it. -/
import Derived.Test.YtnfgpcccmbblcaaDoorShelf
